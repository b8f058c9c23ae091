/-
  Texts 3 of 3 that ChannelNone rests on, laid together by program: Over, Act13b, Chan2, Chan3, NoAr, ChanN, W14, QueueSameW, Few14, Over14, ChannelNoneW, OpenV, Open14.
-/
import Derived.Test.YtihmbgdkllmkaaaDoorCn1
import Derived.Test.YtihmbgdkllmkaaaDoorCn2
import Derived.Deep.Cut
import Derived.Test.YtihmbgdkllmkaaaDoorRows
import Derived.Deep.Slices
import Derived.Deep.Fields
import Derived.ChangeSame
import Derived.ProofKit
import Derived.OpenShut
/-
  over() of law 15 (betrothallaw15/law.go): a loop over All's iterator against a list of entries.
-/
namespace Go.Proofs.YtihmbgdkllmkaaaDoor
open Go.RowKit Go.Shelf
set_option maxRecDepth 100000
set_option linter.unusedVariables false
set_option linter.unusedSimpArgs false
attribute [local go_sem] Oper.semAt_some

theorem AllAt.touch {w w' : World} {bx : Nat} {a : Option Addr} {cap : Nat} {ys : List ME} (h : AllAt w bx a cap ys) (ht : Touch [] w w') : AllAt w' bx a cap ys :=
  ⟨Blk.touch h.1 ht (by simp), h.2.1.touch ht, fun y hy => (h.2.2 y hy).touch0 ht⟩
/-- A loop over what All made, which lies somewhere that nothing turns. -/
theorem range_allQ {n : Nat} {gop : Operand} {ps : Array Tmp} {assign body : Code} {Q : Exit → Act → World → Prop} {a : Act} {w w0 : World} {T : List Nat} {bx : Nat} {ra : Option Addr} {rc : Nat} {ys : List ME}
    (hg : a.eval gop = .func (.func 79) #[] #[.pointer (some ⟨bx, 0, none⟩)])
    (hps : ps.size = 2) (hL : ys.length ≤ 1048576) (hnn : ∀ y ∈ ys, y.v.nodes ≤ 256) (R : Nat → List Thing) (X : Code → List Thing → Prop) (hA : ∀ W, Touch T w0 W → AllAt W bx ra rc ys) (h0 : Led T w0 w (R 0))
    (hround : ∀ (k : Nat) (x : ME) (W : World) (o0 : Obj), k < ys.length → (ys.map ME.plain)[k]? = some x.plain → Led T w0 W (R k ++ [valsT [x.v]] ++ marks w.heap.size o0) →
      assign.wpIn (Fence.wide.inRound (w.heap.size + 1)) (n - 1 - 1) Tryd.prog (Exit.then (fun a1 W1 => ∃ m, Led T w0 W1 (R k ++ [valsT [x.v]] ++ marks w.heap.size o0 ++ m) ∧
        ∀ W2 o, Led T w0 W2 (R k ++ [valsT [x.v]] ++ marks w.heap.size o ++ m) → body.wpIn (Fence.wide.inRound (w.heap.size + 1)) (n - 1 - 1) Tryd.prog (bodyL T w0 w.heap.size o (R (k + 1)) X) a1 W2) (fun _ _ _ => False))
        { tmps := (ps.zip #[.int .i64 (k : Int), x.val]).foldl (fun t (p, v) => t.setIfInBounds p v) a.tmps, defers := [] } W)
    (hdone : ∀ W, Led T w0 W (R ys.length ++ marks1 w.heap.size) → Q .normal { a with defers := { target := .collected w.heap.size, args := #[] } :: a.defers } W)
    (hstop : ∀ c W lx, X c lx → Led T w0 W (lx ++ marks1 w.heap.size) → c.wpIn Fence.wide n Tryd.prog Q { a with defers := { target := .collected w.heap.size, args := #[] } :: a.defers } W) :
    (Code.rangeFunc gop ps assign body).wpIn Fence.wide n Tryd.prog Q a w := by
  refine wp_rangeL (β := Nat × Option ME) hg (enters_of Tryd.func79 (by kernel_rfl) rfl) (fun b => match b.2 with | none => R b.1 | some x => R b.1 ++ [valsT [x.v]]) X (fun b => b = (ys.length, none))
    (fun b xs b' => ∃ x, b.2 = some x ∧ b.1 < ys.length ∧ (ys.map ME.plain)[b.1]? = some x.plain ∧ xs = #[.int .i64 (b.1 : Int), x.val] ∧ b' = (b.1 + 1, none))
    (fun b xs b' ⟨_, _, _, _, hx, _⟩ => by rw [hx, hps]; rfl) (0, none) h0 ?_ ?_ (fun b W hF hj => by subst hF; exact hdone W hj) hstop
  · rintro ⟨k, ox⟩ xs b' W o0 ⟨x, rfl, hk, hp, rfl, rfl⟩ hj
    exact hround k x W o0 hk hp hj
  · intro J' Jx' hJ hC hY W hW'
    have hmk : ∀ k W, J' (k, none) W → w.heap.size + 1 < W.heap.size := fun k W h => by
      obtain ⟨o', h2⟩ := (hJ (k, none) W h).exact_of_some
      exact (Array.getElem?_eq_some_iff.1 (Led.at_mark (m := []) (by simpa using h2)).2).1
    refine CallsIn.mono (all_iter (n - 1) (w.heap.size + 1) bx ra rc ys hL hnn (fun k W => J' (k, none) W) (fun k x W => J' (k, some x) W ∧ (ys.map ME.plain)[k]? = some x.plain) Jx' (fun k W h => hA W (hJ _ W h).tch) ?_ ?_ W hW') ?_
    · intro k W W' x h ht hin hb hp
      refine ⟨hC (k, none) W (k, some x) W' h ?_ ?_, hp⟩
      · have h1 := (hJ _ W h).valsNew (vs := [x.v]) ht (by simpa using hin) (by simpa using hb)
        exact h1.swapEnd
      · have hlt := hmk k W h
        exact ⟨ht.block _ (by omega) (by simp), ht.block _ hlt (by simp)⟩
    · rintro k x W hk ⟨h, hp⟩
      exact hY (k, some x) _ (k + 1, none) W ⟨x, rfl, hk, hp, rfl, rfl⟩ h
    · rintro e W ⟨hv, ⟨k, hk, hj⟩ | hx⟩
      · exact ⟨hv, .inl ⟨(k, none), by rw [hk], hj⟩⟩
      · exact ⟨hv, .inr hx⟩
theorem all_not_nil (fn : Fn) (x y : Array Value) (w : World) : (binOp .eql 80 (.func fn x y) .nilFunc).run Tryd.prog w = .ok (.bool false) w := by kernel_rfl
theorem plain_nodes_eq {x y : ME} (h : y.plain = x.plain) : x.v.nodes = y.v.nodes := by
  rw [← MT.plain_nodes x.v, ← MT.plain_nodes y.v, show x.v.plain = x.plain.v from rfl, ← h]; rfl
/-- What lies there between two rounds. -/
def overR (a2 : Option Addr) (n2 c2 many b4 b5 b6 b7 : Nat) (k : Nat) : List Thing :=
  [box b4 56 #[.slice a2 n2 c2], box b5 3 #[.int .i64 (many : Int)], box b6 4 #[.bool false], box b7 3 #[.int .i64 (k : Int)], fact (k = 0 ∨ k < many)]
end Go.Proofs.YtihmbgdkllmkaaaDoor

/-
  act() of law 13 (betrothallaw13/law.go): Drop, Purge, Copy by both.
-/
namespace Go.Proofs.YtihmbgdkllmkaaaDoor
open Go.RowKit Go.Shelf
set_option maxRecDepth 100000
set_option linter.unusedVariables false
set_option linter.unusedSimpArgs false

theorem AtRef.atR {es : List ME} {i : Int} {y : ME} {c : Bool} (h : AtRef es i y c) : AtR (es.map ME.plain) i y c := by
  rcases h with ⟨h1, h2, h3⟩ | ⟨h1, h2, h3⟩
  · exact .inl ⟨h1, h2, by rw [List.getElem?_map, h3]; rfl⟩
  · exact .inr ⟨h1, by simpa using h2, h3⟩
theorem Led.qDropS {T : List Nat} {w0 w : World} {l : List Thing} {g : Nat} {es : List ME} (h : Led T w0 w l) (i : Nat) (hi : l[i]? = some (queueT g es)) (z : Int) (hes : es.length ≤ 1048576) :
    Calls Tryd.prog 36 #[.pointer (some ⟨g, 0, none⟩), .int .i64 z] w fun e w' => ∃ y c, e = .returned (.tuple #[y.val, .bool c]) ∧ AtRef es z y c ∧ Led T w0 w' (l.set i (queueT g (if c = true then es.eraseIdx z.toNat else es))) := by
  refine (h.qDrop i hi z hes).mono ?_
  rintro e w' (⟨y, h0, hy, rfl, hL⟩ | ⟨hn, rfl, hL⟩)
  · exact ⟨y, true, rfl, .inl ⟨rfl, h0, hy⟩, hL⟩
  · exact ⟨ME.zero, false, rfl, .inr ⟨rfl, hn, rfl⟩, hL⟩
theorem eraseIdx_map_plain (es : List ME) (i : Nat) : (es.eraseIdx i).map ME.plain = (es.map ME.plain).eraseIdx i := by
  simp only [List.eraseIdx_eq_take_drop_succ, List.map_append, List.map_take, List.map_drop]
theorem filter_map_plain (es : List ME) (zs : List Int) : (es.filter fun e => !decide (e.plain.sync ∈ zs)).map ME.plain = (es.map ME.plain).filter fun p => !decide (p.sync ∈ zs) := by
  rw [List.filter_map]
  rfl
theorem Both13.sub {P P1 : World → Prop} {es rs es1 rs1 : List ME} {a a1 : Option Addr} {cap cap1 : Nat} (h : Both13 P es rs a cap) (hP1 : ∀ W, P1 W → P W ∧ EntsAt W a1 rs1) (h1 : es1.map ME.plain = rs1.map ME.plain) (he : ∀ e ∈ es1, e ∈ es) (hr : ∀ r ∈ rs1, r ∈ rs) (hl : es1.length ≤ es.length) (hc1 : rs1.length ≤ cap1) : Both13 P1 es1 rs1 a1 cap1 :=
  ⟨h1, hc1, Nat.le_trans hl h.2.2.1, fun e hh => h.2.2.2.1 e (he e hh), fun W hW => by
    obtain ⟨h2, h3⟩ := hP1 W hW
    obtain ⟨g1, _, g3⟩ := h.2.2.2.2 W h2
    exact ⟨fun e hh => g1 e (he e hh), h3, fun r hh => g3 r (hr r hh)⟩⟩
theorem Both13.copy {P : World → Prop} {es rs ys : List ME} {a : Option Addr} {cap : Nat} (h : Both13 P es rs a cap) (hp : ys.map ME.plain = es.map ME.plain) : Both13 (fun W => P W ∧ ∀ y ∈ ys, y.v.In W) ys rs a cap := by
  have hl : ys.length = es.length := by have := congrArg List.length hp; simpa using this
  refine ⟨hp.trans h.1, h.2.1, by rw [hl]; exact h.2.2.1, fun y hy => ?_, fun W hW => ⟨hW.2, (h.2.2.2.2 W hW.1).2⟩⟩
  have hm : y.plain ∈ es.map ME.plain := by rw [← hp]; exact List.mem_map_of_mem hy
  obtain ⟨e, he, hpe⟩ := List.mem_map.1 hm
  rw [plain_nodes_eq hpe]
  exact h.2.2.2.1 e he
theorem Both13.drop {P P1 : World → Prop} {es rs rs1 : List ME} {a a1 : Option Addr} {cap cap1 i : Nat} {c : Bool} (h : Both13 P es rs a cap) (hP1 : ∀ W, P1 W → P W ∧ EntsAt W a1 rs1) (hrs : rs1 = if c = true then rs.eraseIdx i else rs) (hc1 : rs1.length ≤ cap1) : Both13 P1 (if c = true then es.eraseIdx i else es) rs1 a1 cap1 := by
  subst hrs
  cases c with
  | true => exact h.sub hP1 (by simp only [if_true, eraseIdx_map_plain, h.1]) (fun e he => List.mem_of_mem_eraseIdx he) (fun e he => List.mem_of_mem_eraseIdx he) (List.length_eraseIdx_le es i) hc1
  | false => exact h.sub hP1 (by simpa using h.1) (fun e he => he) (fun e he => he) (Nat.le_refl _) hc1
theorem Both13.purge {P P1 : World → Prop} {es rs rs1 : List ME} {a a1 : Option Addr} {cap cap1 : Nat} {zs : List Int} (h : Both13 P es rs a cap) (hP1 : ∀ W, P1 W → P W ∧ EntsAt W a1 rs1) (hrs : rs1 = rs.filter fun e => !decide (e.sync ∈ zs)) (hc1 : rs1.length ≤ cap1) :
    Both13 P1 (es.filter fun e => !decide (e.plain.sync ∈ zs)) rs1 a1 cap1 ∧ ((es.length - (es.filter fun e => !decide (e.plain.sync ∈ zs)).length : Nat) : Int) = (rs.length : Int) - (rs1.length : Int) := by
  subst hrs
  have h1 : (es.filter fun e => !decide (e.plain.sync ∈ zs)).map ME.plain = (rs.filter fun e => !decide (e.sync ∈ zs)).map ME.plain := by
    rw [filter_map_plain, h.1, ← filter_map_plain]
    rfl
  refine ⟨h.sub hP1 h1 (fun e he => (List.mem_filter.1 he).1) (fun e he => (List.mem_filter.1 he).1) (List.length_filter_le _ es) hc1, ?_⟩
  have h2 := congrArg List.length h1
  simp only [List.length_map] at h2
  have h3 := List.length_filter_le (fun e : ME => !decide (e.plain.sync ∈ zs)) es
  have h4 := h.len
  omega
end Go.Proofs.YtihmbgdkllmkaaaDoor

/-
  Layer 14 (channel.go): Push, Look, Drop, Len, All.
-/
namespace Go.Proofs.YtihmbgdkllmkaaaDoor
open Go.RowKit Go.Shelf
set_option maxRecDepth 100000
set_option linter.unusedVariables false
set_option linter.unusedSimpArgs false

/-- The queue of a side. -/
def QSide (q1 q2 : Nat) (s : Int) (g : Nat) : Prop := qOf s q1 q2 = some ⟨g, 0, none⟩
theorem len1_c (w : World) (g : Nat) (es : List ME) (h : QAt w g es) : Calls Tryd.prog 41 #[.pointer (some ⟨g, 0, none⟩)] w fun e w' => e = .returned (.tuple #[.int .i64 (es.length : Int), .bool true]) ∧ w = w' := by
  have H := Lib.hid h
  clear h
  go_enter Tryd.func41, Tryd.ntmps41
  go_wp2_with fail
  refine (Len_q w g es H.out).mono ?_
  rintro e w' ⟨rfl, rfl⟩
  go_wp2
  go_ret2
  exact ⟨rfl, rfl⟩
section
variable (w : World) (c : Nat) (a : Int) (M q1 q2 : Nat) (hc : ChAt w c a M q1 q2) (s : Int)
include hc
theorem All_ch (g : Nat) (es : List ME) (hq : qOf s q1 q2 = some ⟨g, 0, none⟩) (h : QAt w g es) (hin : ∀ e ∈ es, e.v.In w ∧ e.v.nodes ≤ 256) (hlen : es.length ≤ 4096) : Calls Tryd.prog 24 #[.pointer (some ⟨c, 0, none⟩), .int .i64 s] w (AllTold es w) := by
  have HC := Lib.hid (fun W (hW : Touch [] w W) => hc.touch hW)
  have HA := Lib.hid (All_q w g es h hin (by omega))
  clear hc h hin
  go_enter Tryd.func24, Tryd.ntmps24
  go_wp2_with fail
  refine (queue_c _ _ _ _ _ _ (HC.out _ (Touch.refl [] w)) s).mono ?_
  rintro e w' ⟨rfl, rfl⟩
  rw [hq]
  go_wp2_with fail
  refine HA.out.mono ?_
  rintro e w' ⟨bx, ra, rc, ys, rfl, hpy, hL⟩
  have HPY := Lib.hid hpy
  have HL := Lib.hid hL
  clear hpy hL
  go_wp2
  go_ret
  exact ⟨bx, ra, rc, ys, rfl, HPY.out, HL.out⟩
theorem All_ch_no (hq : qOf s q1 q2 = none) : Calls Tryd.prog 24 #[.pointer (some ⟨c, 0, none⟩), .int .i64 s] w (AllTold [] w) := by
  have HC := Lib.hid (fun W (hW : Touch [] w W) => hc.touch hW)
  clear hc
  go_enter Tryd.func24, Tryd.ntmps24
  go_wp2_with fail
  refine (queue_c _ _ _ _ _ _ (HC.out _ (Touch.refl [] w)) s).mono ?_
  rintro e w' ⟨rfl, rfl⟩
  rw [hq]
  go_wp2_with fail
  refine (All_n w none (.inl rfl)).mono ?_
  rintro e w' ⟨bx, rfl, hL⟩
  have HL := Lib.hid hL
  clear hL
  go_wp2
  go_ret
  exact ⟨bx, none, 0, [], rfl, rfl, HL.out⟩
theorem Len_ch (g : Nat) (es : List ME) (hq : qOf s q1 q2 = some ⟨g, 0, none⟩) (h : QAt w g es) : Calls Tryd.prog 15 #[.pointer (some ⟨c, 0, none⟩), .int .i64 s] w fun e w' => e = .returned (.int .i64 (es.length : Int)) ∧ w = w' := by
  have HC := Lib.hid (fun W (hW : Touch [] w W) => hc.touch hW)
  have H := Lib.hid h
  have HR : Hid (Calls Tryd.prog 40 #[.pointer (some ⟨c, 0, none⟩), .int .i64 s, .func (.func 41) #[] #[]] w fun e w' => e = .returned (.tuple #[.int .i64 (es.length : Int), .bool true]) ∧ w = w') := by
    unfold Hid
    go_enter Tryd.func40, Tryd.ntmps40
    go_wp2_with fail
    refine (queue_c _ _ _ _ _ _ (HC.out _ (Touch.refl [] w)) s).mono ?_
    rintro e w' ⟨rfl, rfl⟩
    rw [hq]
    go_wp2_with fail
    refine (len1_c w g es H.out).mono ?_
    rintro e w' ⟨rfl, rfl⟩
    go_wp2
    go_ret2
    exact ⟨rfl, rfl⟩
  clear hc h
  go_enter Tryd.func15, Tryd.ntmps15
  go_wp2_with fail
  refine HR.out.mono ?_
  rintro e w' ⟨rfl, rfl⟩
  go_wp2
  go_ret
  exact ⟨rfl, rfl⟩
theorem Len_ch_no (hq : qOf s q1 q2 = none) : Calls Tryd.prog 15 #[.pointer (some ⟨c, 0, none⟩), .int .i64 s] w fun e w' => e = .returned (.int .i64 0) ∧ w = w' := by
  have HC := Lib.hid (fun W (hW : Touch [] w W) => hc.touch hW)
  have HR : Hid (Calls Tryd.prog 40 #[.pointer (some ⟨c, 0, none⟩), .int .i64 s, .func (.func 41) #[] #[]] w fun e w' => e = .returned (.tuple #[.int .i64 0, .bool false]) ∧ w = w') := by
    unfold Hid
    go_enter Tryd.func40, Tryd.ntmps40
    go_wp2_with fail
    refine (queue_c _ _ _ _ _ _ (HC.out _ (Touch.refl [] w)) s).mono ?_
    rintro e w' ⟨rfl, rfl⟩
    rw [hq]
    go_wp2
    go_ret2
    exact ⟨rfl, rfl⟩
  clear hc
  go_enter Tryd.func15, Tryd.ntmps15
  go_wp2_with fail
  refine HR.out.mono ?_
  rintro e w' ⟨rfl, rfl⟩
  go_wp2
  go_ret
  exact ⟨rfl, rfl⟩
end
end Go.Proofs.YtihmbgdkllmkaaaDoor

/-
  Layer 14 (channel.go): Look, Drop, Push.
-/
namespace Go.Proofs.YtihmbgdkllmkaaaDoor
open Go.RowKit Go.Shelf
set_option maxRecDepth 100000
set_option linter.unusedVariables false
set_option linter.unusedSimpArgs false

set_option maxHeartbeats 1000000 in
theorem look1_c (w : World) (g : Nat) (es : List ME) (i : Int) (bi : Nat) (h : QAt w g es) (hin : ∀ e ∈ es, e.v.In w ∧ e.v.nodes ≤ 256) (hb : w.cell? ⟨bi, 0, none⟩ = some (.int .i64 i)) : Calls Tryd.prog 43 #[.pointer (some ⟨g, 0, none⟩), .pointer (some ⟨bi, 0, none⟩)] w (AtTold (es.map ME.plain) i w) := by
  have HQ := Lib.hid (fun W (hW : Touch [] w W) => h.touch hW)
  have HEI := Lib.hid (fun W (hW : Touch [] w W) x (hx : x ∈ es) => (And.intro ((hin x hx).1.touch0 hW) (hin x hx).2 : x.v.In W ∧ x.v.nodes ≤ 256))
  have hbl : bi < w.heap.size := World.block_lt_of_cell? _ _ hb
  have hbl1 : bi < w.heap.size + 1 := by omega
  clear h hin
  go_enter Tryd.func43, Tryd.ntmps43
  go_wp2_with fail
  refine wp_calls_name ?_
  intro w1 hw1
  have HL1 := Lib.hid ((Led.nil' w).al1 hw1)
  simp only [List.nil_append] at HL1
  obtain ⟨b3, hb3⟩ : ∃ b, w.heap.size = b := ⟨_, rfl⟩
  rw [hb3] at HL1 ⊢
  clear hw1 hb3 hb hbl hbl1
  refine (At_q w1 g es i (HQ.out _ HL1.out.tch) (HEI.out _ HL1.out.tch)).mono ?_
  rintro e w2 ⟨x, cc, rfl, hR, hxin, hxnew, ht⟩
  have HL2 := Lib.hid (HL1.out.valsNew (vs := [x.v]) ht (by simpa using hxin) (by simpa using hxnew))
  have HR := Lib.hid hR
  have HXN : Hid (∀ k ∈ x.v.blocks, w.heap.size ≤ k) := fun k hk => Nat.le_trans HL1.out.size (hxnew k hk)
  clear hR hxin hxnew ht HL1
  simp only [List.nil_append, List.cons_append] at HL2
  simp only [ent_eq]
  obtain ⟨r0, r1, r2, r3, r4, r5, r6, ⟨f0, f1, f2, f3, f4, f5, f6⟩, zr, _, _⟩ := HL2.out.c7 0 rfl
  go_wp2
  have HL3 := Lib.hid (HL2.out.setEnt 0 rfl x.sync x.thread x.branch x.flag x.v.kind x.v.num (.slice x.v.addr x.v.parts.length x.v.cap))
  simp only [List.set_cons_zero, List.set_cons_succ] at HL3
  obtain ⟨s0, s1, s2, s3, s4, s5, s6, _⟩ := HL3.out.c7 0 rfl
  refine bodyPost_ret (v := .tuple #[x.val, .bool cc]) (by simp [results, Tryd.results43, go_sem, s0, s1, s2, s3, s4, s5, s6, ent_eq]) rfl ?_
  exact ⟨x, cc, rfl, HR.out, HL3.out.valsIn 1 rfl _ (by simp), HXN.out, HL3.out.tch⟩
set_option maxHeartbeats 1000000 in
theorem readE_look (w : World) (c : Nat) (a : Int) (M q1 q2 : Nat) (hc : ChAt w c a M q1 q2) (s : Int) (g : Nat) (es : List ME) (i : Int) (bi : Nat) (hq : qOf s q1 q2 = some ⟨g, 0, none⟩) (h : QAt w g es) (hin : ∀ e ∈ es, e.v.In w ∧ e.v.nodes ≤ 256) (hb : w.cell? ⟨bi, 0, none⟩ = some (.int .i64 i)) :
    Calls Tryd.prog 34 #[.pointer (some ⟨c, 0, none⟩), .int .i64 s, .func (.func 43) #[] #[.pointer (some ⟨bi, 0, none⟩)]] w (AtTold (es.map ME.plain) i w) := by
  have HC := Lib.hid (fun W (hW : Touch [] w W) => hc.touch hW)
  have HLK := Lib.hid (fun W (hW : Touch [] w W) => look1_c W g es i bi (h.touch hW) (fun x hx => ⟨(hin x hx).1.touch0 hW, (hin x hx).2⟩) (hW.cellOf hb))
  clear h hin hb hc
  go_enter Tryd.func34, Tryd.ntmps34
  go_wp2_with fail
  refine wp_calls_name ?_
  intro w1 hw1
  have HL1 := Lib.hid ((Led.nil' w).al1 hw1)
  simp only [List.nil_append] at HL1
  obtain ⟨b6, hb6⟩ : ∃ b, w.heap.size = b := ⟨_, rfl⟩
  rw [hb6] at HL1 ⊢
  clear hw1 hb6
  go_wp2_with fail
  refine (queue_c _ _ _ _ _ _ (HC.out _ HL1.out.tch) s).mono ?_
  rintro e w' ⟨rfl, rfl⟩
  rw [hq]
  go_wp2_with fail
  refine (HLK.out _ HL1.out.tch).mono ?_
  rintro e w2 ⟨x, cc, rfl, hR, hxin, hxnew, ht⟩
  have HL2 := Lib.hid (HL1.out.valsNew (vs := [x.v]) ht (by simpa using hxin) (by simpa using hxnew))
  have HR := Lib.hid hR
  have HXN : Hid (∀ k ∈ x.v.blocks, w.heap.size ≤ k) := fun k hk => Nat.le_trans HL1.out.size (hxnew k hk)
  clear hR hxin hxnew ht HL1
  simp only [List.nil_append, List.cons_append] at HL2
  simp only [ent_eq]
  obtain ⟨r0, r1, r2, r3, r4, r5, r6, ⟨f0, f1, f2, f3, f4, f5, f6⟩, zr, _, _⟩ := HL2.out.c7 0 rfl
  go_wp2
  have HL3 := Lib.hid (HL2.out.setEnt 0 rfl x.sync x.thread x.branch x.flag x.v.kind x.v.num (.slice x.v.addr x.v.parts.length x.v.cap))
  simp only [List.set_cons_zero, List.set_cons_succ] at HL3
  obtain ⟨s0, s1, s2, s3, s4, s5, s6, _⟩ := HL3.out.c7 0 rfl
  refine bodyPost_ret (v := .tuple #[x.val, .bool cc]) (by simp [results, Tryd.results34, go_sem, s0, s1, s2, s3, s4, s5, s6, ent_eq]) rfl ?_
  exact ⟨x, cc, rfl, HR.out, HL3.out.valsIn 1 rfl _ (by simp), HXN.out, HL3.out.tch⟩
set_option maxHeartbeats 1000000 in
theorem Look_ch (w : World) (c : Nat) (a : Int) (M q1 q2 : Nat) (hc : ChAt w c a M q1 q2) (s : Int) (g : Nat) (es : List ME) (i : Int) (hq : qOf s q1 q2 = some ⟨g, 0, none⟩) (h : QAt w g es) (hin : ∀ e ∈ es, e.v.In w ∧ e.v.nodes ≤ 256) :
    Calls Tryd.prog 16 #[.pointer (some ⟨c, 0, none⟩), .int .i64 s, .int .i64 i] w (AtTold (es.map ME.plain) i w) := by
  have HLK := Lib.hid (fun W (hW : Touch [] w W) bi (hb : W.cell? ⟨bi, 0, none⟩ = some (.int .i64 i)) => readE_look W c a M q1 q2 (hc.touch hW) s g es i bi hq (h.touch hW) (fun x hx => ⟨(hin x hx).1.touch0 hW, (hin x hx).2⟩) hb)
  clear h hin hc
  go_enter Tryd.func16, Tryd.ntmps16
  go_wp2_with fail
  refine wp_calls_name ?_
  intro w1 hw1
  have HL1 := Lib.hid ((Led.nil' w).al2 hw1)
  simp only [List.nil_append, List.cons_append] at HL1
  obtain ⟨b6, hb6⟩ : ∃ b, w.heap.size + 1 = b := ⟨_, rfl⟩
  rw [hb6] at HL1 ⊢
  obtain ⟨b5, hb5⟩ : ∃ b, w.heap.size = b := ⟨_, rfl⟩
  rw [hb5] at HL1 ⊢
  clear hw1 hb6 hb5
  refine (HLK.out _ HL1.out.tch b5 ((HL1.out.box 0 rfl).cell 0)).mono ?_
  rintro e w2 ⟨x, cc, rfl, hR, hxin, hxnew, ht⟩
  have HL2 := Lib.hid (HL1.out.valsNew (vs := [x.v]) ht (by simpa using hxin) (by simpa using hxnew))
  have HR := Lib.hid hR
  have HXN : Hid (∀ k ∈ x.v.blocks, w.heap.size ≤ k) := fun k hk => Nat.le_trans HL1.out.size (hxnew k hk)
  clear hR hxin hxnew ht HL1
  simp only [List.nil_append, List.cons_append] at HL2
  simp only [ent_eq]
  obtain ⟨r0, r1, r2, r3, r4, r5, r6, ⟨f0, f1, f2, f3, f4, f5, f6⟩, zr, _, _⟩ := HL2.out.c7 1 rfl
  go_wp2
  have HL3 := Lib.hid (HL2.out.setEnt 1 rfl x.sync x.thread x.branch x.flag x.v.kind x.v.num (.slice x.v.addr x.v.parts.length x.v.cap))
  simp only [List.set_cons_zero, List.set_cons_succ] at HL3
  obtain ⟨s0, s1, s2, s3, s4, s5, s6, _⟩ := HL3.out.c7 1 rfl
  refine bodyPost_ret (v := .tuple #[x.val, .bool cc]) (by simp [results, Tryd.results16, go_sem, s0, s1, s2, s3, s4, s5, s6, ent_eq]) rfl ?_
  exact ⟨x, cc, rfl, HR.out, HL3.out.valsIn 2 rfl _ (by simp), HXN.out, HL3.out.tch⟩
theorem post_nameQ {P : Program} {fn : Func} {R : Ending → World → Prop} {ex : Exit} {a : Act} {W : World} (h : ∀ w2, W = w2 → bodyPost P fn R ex a w2) : bodyPost P fn R ex a W := h W rfl
set_option maxHeartbeats 1000000 in
/-- A side that there is not, whatever would be read of it. -/
theorem readE_no (w : World) (c : Nat) (a : Int) (M q1 q2 : Nat) (hc : ChAt w c a M q1 q2) (s : Int) (hq : qOf s q1 q2 = none) (fn : Fn) (xs ys : Array Value) :
    Calls Tryd.prog 34 #[.pointer (some ⟨c, 0, none⟩), .int .i64 s, .func fn xs ys] w fun e w' => e = .returned (.tuple #[ME.zero.val, .bool false]) ∧ Touch [] w w' := by
  have HC := Lib.hid (fun W (hW : Touch [] w W) => hc.touch hW)
  clear hc
  go_enter Tryd.func34, Tryd.ntmps34
  go_wp2_with fail
  refine wp_calls_name ?_
  intro w1 hw1
  have HL1 := Lib.hid ((Led.nil' w).al1 hw1)
  simp only [List.nil_append] at HL1
  obtain ⟨b6, hb6⟩ : ∃ b, w.heap.size = b := ⟨_, rfl⟩
  rw [hb6] at HL1 ⊢
  clear hw1 hb6
  go_wp2_with fail
  refine (queue_c _ _ _ _ _ _ (HC.out _ HL1.out.tch) s).mono ?_
  rintro e w' ⟨rfl, rfl⟩
  rw [hq]
  obtain ⟨r0, r1, r2, r3, r4, r5, r6, ⟨f0, f1, f2, f3, f4, f5, f6⟩, zr, _, _⟩ := HL1.out.c7 0 rfl
  have m1 : b6 ≠ w1.heap.size := by omega
  have m2 := Ne.symm m1
  go_wp2
  refine post_nameQ ?_
  intro w2 hw2
  have HL3 := Lib.hid (((HL1.out.setEnt 0 rfl 0 0 0 0 0 0 (.slice none 0 0)).alloc 42 #[.int .i64 0, .int .i64 0, .int .i64 0, .int .i64 0, .int .i64 0, .int .i64 0, .slice none 0 0]).via hw2)
  simp only [List.set_cons_zero, List.set_cons_succ, List.cons_append, List.nil_append] at HL3
  obtain ⟨s0, s1, s2, s3, s4, s5, s6, _⟩ := HL3.out.c7 0 rfl
  have hzv : ME.zero.val = .agg #[.int .i64 0, .int .i64 0, .int .i64 0, .int .i64 0, .int .i64 0, .int .i64 0, .slice none 0 0] := rfl
  refine bodyPost_ret (v := .tuple #[.agg #[.int .i64 0, .int .i64 0, .int .i64 0, .int .i64 0, .int .i64 0, .int .i64 0, .slice none 0 0], .bool false]) (by simp [results, Tryd.results34, go_sem, s0, s1, s2, s3, s4, s5, s6]) rfl ?_
  exact ⟨by rw [hzv], HL3.out.tch⟩
set_option maxHeartbeats 1000000 in
theorem Look_ch_no (w : World) (c : Nat) (a : Int) (M q1 q2 : Nat) (hc : ChAt w c a M q1 q2) (s : Int) (i : Int) (hq : qOf s q1 q2 = none) :
    Calls Tryd.prog 16 #[.pointer (some ⟨c, 0, none⟩), .int .i64 s, .int .i64 i] w fun e w' => e = .returned (.tuple #[ME.zero.val, .bool false]) ∧ Touch [] w w' := by
  have HLK := Lib.hid (fun W (hW : Touch [] w W) fn xs ys => readE_no W c a M q1 q2 (hc.touch hW) s hq fn xs ys)
  clear hc
  go_enter Tryd.func16, Tryd.ntmps16
  go_wp2_with fail
  refine wp_calls_name ?_
  intro w1 hw1
  have HL1 := Lib.hid ((Led.nil' w).al2 hw1)
  simp only [List.nil_append, List.cons_append] at HL1
  obtain ⟨b6, hb6⟩ : ∃ b, w.heap.size + 1 = b := ⟨_, rfl⟩
  rw [hb6] at HL1 ⊢
  obtain ⟨b5, hb5⟩ : ∃ b, w.heap.size = b := ⟨_, rfl⟩
  rw [hb5] at HL1 ⊢
  clear hw1 hb6 hb5
  refine (HLK.out _ HL1.out.tch _ _ _).mono ?_
  rintro e w2 ⟨rfl, ht⟩
  have HL2 := Lib.hid (HL1.out.touch ht)
  clear ht HL1
  have hzv : ME.zero.val = .agg #[.int .i64 0, .int .i64 0, .int .i64 0, .int .i64 0, .int .i64 0, .int .i64 0, .slice none 0 0] := rfl
  rw [hzv]
  obtain ⟨r0, r1, r2, r3, r4, r5, r6, ⟨f0, f1, f2, f3, f4, f5, f6⟩, zr, _, _⟩ := HL2.out.c7 1 rfl
  go_wp2
  have HL3 := Lib.hid (HL2.out.setEnt 1 rfl 0 0 0 0 0 0 (.slice none 0 0))
  simp only [List.set_cons_zero, List.set_cons_succ] at HL3
  obtain ⟨s0, s1, s2, s3, s4, s5, s6, _⟩ := HL3.out.c7 1 rfl
  refine bodyPost_ret (v := .tuple #[.agg #[.int .i64 0, .int .i64 0, .int .i64 0, .int .i64 0, .int .i64 0, .int .i64 0, .slice none 0 0], .bool false]) (by simp [results, Tryd.results16, go_sem, s0, s1, s2, s3, s4, s5, s6]) rfl ?_
  exact ⟨rfl, HL3.out.tch⟩
set_option maxHeartbeats 1000000 in
theorem Drop_ch_no (w : World) (c : Nat) (a : Int) (M q1 q2 : Nat) (hc : ChAt w c a M q1 q2) (s : Int) (i : Int) (hq : qOf s q1 q2 = none) :
    Calls Tryd.prog 12 #[.pointer (some ⟨c, 0, none⟩), .int .i64 s, .int .i64 i] w fun e w' => e = .returned (.tuple #[ME.zero.val, .bool false]) ∧ Touch [] w w' := by
  have HLK := Lib.hid (fun W (hW : Touch [] w W) fn xs ys => readE_no W c a M q1 q2 (hc.touch hW) s hq fn xs ys)
  clear hc
  go_enter Tryd.func12, Tryd.ntmps12
  go_wp2_with fail
  refine wp_calls_name ?_
  intro w1 hw1
  have HL1 := Lib.hid ((Led.nil' w).al2 hw1)
  simp only [List.nil_append, List.cons_append] at HL1
  obtain ⟨b6, hb6⟩ : ∃ b, w.heap.size + 1 = b := ⟨_, rfl⟩
  rw [hb6] at HL1 ⊢
  obtain ⟨b5, hb5⟩ : ∃ b, w.heap.size = b := ⟨_, rfl⟩
  rw [hb5] at HL1 ⊢
  clear hw1 hb6 hb5
  refine (HLK.out _ HL1.out.tch _ _ _).mono ?_
  rintro e w2 ⟨rfl, ht⟩
  have HL2 := Lib.hid (HL1.out.touch ht)
  clear ht HL1
  have hzv : ME.zero.val = .agg #[.int .i64 0, .int .i64 0, .int .i64 0, .int .i64 0, .int .i64 0, .int .i64 0, .slice none 0 0] := rfl
  rw [hzv]
  obtain ⟨r0, r1, r2, r3, r4, r5, r6, ⟨f0, f1, f2, f3, f4, f5, f6⟩, zr, _, _⟩ := HL2.out.c7 1 rfl
  go_wp2
  have HL3 := Lib.hid (HL2.out.setEnt 1 rfl 0 0 0 0 0 0 (.slice none 0 0))
  simp only [List.set_cons_zero, List.set_cons_succ] at HL3
  obtain ⟨s0, s1, s2, s3, s4, s5, s6, _⟩ := HL3.out.c7 1 rfl
  refine bodyPost_ret (v := .tuple #[.agg #[.int .i64 0, .int .i64 0, .int .i64 0, .int .i64 0, .int .i64 0, .int .i64 0, .slice none 0 0], .bool false]) (by simp [results, Tryd.results12, go_sem, s0, s1, s2, s3, s4, s5, s6]) rfl ?_
  exact ⟨rfl, HL3.out.tch⟩
/-- What Drop tells of a queue alone. -/
def DroppedC (T : List Nat) (w : World) (g : Nat) (es : List ME) (z : Int) (e : Ending) (w' : World) : Prop := ∃ y c rest, e = .returned (.tuple #[y.val, .bool c]) ∧ AtRef es z y c ∧ Led T w w' (queueT g (if c = true then es.eraseIdx z.toNat else es) :: rest)
set_option maxHeartbeats 1000000 in
theorem drop1_c (T : List Nat) (w : World) (g : Nat) (es : List ME) (z : Int) (bi : Nat) (h : Led T w w [queueT g es]) (hes : es.length ≤ 4096) (hb : w.cell? ⟨bi, 0, none⟩ = some (.int .i64 z)) : Calls Tryd.prog 35 #[.pointer (some ⟨g, 0, none⟩), .pointer (some ⟨bi, 0, none⟩)] w (DroppedC T w g es z) := by
  have HL0 := Lib.hid h
  have hbl : bi < w.heap.size := World.block_lt_of_cell? _ _ hb
  have hbl1 : bi < w.heap.size + 1 := by omega
  clear h
  go_enter Tryd.func35, Tryd.ntmps35
  go_wp2_with fail
  refine wp_calls_name ?_
  intro w1 hw1
  have HL1 := Lib.hid (HL0.out.al1 hw1)
  simp only [List.nil_append, List.cons_append] at HL1
  obtain ⟨b3, hb3⟩ : ∃ b, w.heap.size = b := ⟨_, rfl⟩
  rw [hb3] at HL1 ⊢
  clear hw1 hb3 hb hbl hbl1 HL0
  refine (HL1.out.qDropS 0 rfl z (by omega)).mono ?_
  rintro e w2 ⟨y, cc, rfl, hR, hL⟩
  have HR := Lib.hid hR
  have HL2 := Lib.hid hL
  clear hR hL HL1
  simp only [List.set_cons_zero, List.cons_append, List.nil_append] at HL2
  simp only [ent_eq]
  obtain ⟨r0, r1, r2, r3, r4, r5, r6, ⟨f0, f1, f2, f3, f4, f5, f6⟩, zr, _, _⟩ := HL2.out.c7 1 rfl
  go_wp2
  have HL3 := Lib.hid (HL2.out.setEnt 1 rfl y.sync y.thread y.branch y.flag y.v.kind y.v.num (.slice y.v.addr y.v.parts.length y.v.cap))
  simp only [List.set_cons_zero, List.set_cons_succ] at HL3
  obtain ⟨s0, s1, s2, s3, s4, s5, s6, _⟩ := HL3.out.c7 1 rfl
  refine bodyPost_ret (v := .tuple #[y.val, .bool cc]) (by simp [results, Tryd.results35, go_sem, s0, s1, s2, s3, s4, s5, s6, ent_eq]) rfl ?_
  exact ⟨y, cc, _, rfl, HR.out, HL3.out⟩
set_option maxHeartbeats 1000000 in
theorem readE_drop (T : List Nat) (w : World) (c : Nat) (a : Int) (M q1 q2 : Nat) (hc : ChAt w c a M q1 q2) (s : Int) (g : Nat) (es : List ME) (z : Int) (bi : Nat) (hq : qOf s q1 q2 = some ⟨g, 0, none⟩) (h : Led T w w [queueT g es]) (hes : es.length ≤ 4096) (hb : w.cell? ⟨bi, 0, none⟩ = some (.int .i64 z)) :
    Calls Tryd.prog 34 #[.pointer (some ⟨c, 0, none⟩), .int .i64 s, .func (.func 35) #[] #[.pointer (some ⟨bi, 0, none⟩)]] w (DroppedC T w g es z) := by
  have HC := Lib.hid (fun W (hW : Touch [] w W) => hc.touch hW)
  have HBI := Lib.hid (fun W (hW : Touch [] w W) => hW.cellOf hb)
  have HL0 := Lib.hid h
  clear h hb hc
  go_enter Tryd.func34, Tryd.ntmps34
  go_wp2_with fail
  refine wp_calls_name ?_
  intro w1 hw1
  have HT1 : Hid (Touch [] w w1) := hw1 ▸ (Touch.refl [] w).alloc _
  have HL1 := Lib.hid (HL0.out.al1 hw1)
  simp only [List.nil_append, List.cons_append] at HL1
  obtain ⟨b6, hb6⟩ : ∃ b, w.heap.size = b := ⟨_, rfl⟩
  rw [hb6] at HL1 ⊢
  clear hw1 hb6 HL0
  go_wp2_with fail
  refine (queue_c _ _ _ _ _ _ (HC.out _ HT1.out) s).mono ?_
  rintro e w' ⟨rfl, rfl⟩
  rw [hq]
  obtain ⟨T', hF, hbk⟩ := HL1.out.frame1 0 rfl
  go_wp2_with fail
  refine (drop1_c T' w1 g es z bi hF hes (HBI.out _ HT1.out)).mono ?_
  rintro e w2 ⟨y, cc, rest, rfl, hR, hL'⟩
  have hL := hbk _ _ _ hL'
  clear hL' hbk hF
  have HR := Lib.hid hR
  have HL2 := Lib.hid hL
  clear hR hL HL1
  simp only [List.set_cons_zero, List.cons_append, List.nil_append] at HL2
  simp only [ent_eq]
  obtain ⟨r0, r1, r2, r3, r4, r5, r6, ⟨f0, f1, f2, f3, f4, f5, f6⟩, zr, _, _⟩ := HL2.out.c7 1 rfl
  go_wp2
  have HL3 := Lib.hid (HL2.out.setEnt 1 rfl y.sync y.thread y.branch y.flag y.v.kind y.v.num (.slice y.v.addr y.v.parts.length y.v.cap))
  simp only [List.set_cons_zero, List.set_cons_succ] at HL3
  obtain ⟨s0, s1, s2, s3, s4, s5, s6, _⟩ := HL3.out.c7 1 rfl
  refine bodyPost_ret (v := .tuple #[y.val, .bool cc]) (by simp [results, Tryd.results34, go_sem, s0, s1, s2, s3, s4, s5, s6, ent_eq]) rfl ?_
  exact ⟨y, cc, _, rfl, HR.out, HL3.out⟩
set_option maxHeartbeats 1000000 in
theorem Drop_chF (T : List Nat) (w : World) (c : Nat) (a : Int) (M q1 q2 : Nat) (hc : ChAt w c a M q1 q2) (s : Int) (g : Nat) (es : List ME) (z : Int) (hq : qOf s q1 q2 = some ⟨g, 0, none⟩) (h : Led T w w [queueT g es]) (hes : es.length ≤ 4096) :
    Calls Tryd.prog 12 #[.pointer (some ⟨c, 0, none⟩), .int .i64 s, .int .i64 z] w (DroppedC T w g es z) := by
  have HC := Lib.hid (fun W (hW : Touch [] w W) => hc.touch hW)
  have HL0 := Lib.hid h
  clear h hc
  go_enter Tryd.func12, Tryd.ntmps12
  go_wp2_with fail
  refine wp_calls_name ?_
  intro w1 hw1
  have HT1 : Hid (Touch [] w w1) := hw1 ▸ ((Touch.refl [] w).alloc _).alloc _
  have HL1 := Lib.hid (HL0.out.al2 hw1)
  simp only [List.nil_append, List.cons_append] at HL1
  obtain ⟨b6, hb6⟩ : ∃ b, w.heap.size + 1 = b := ⟨_, rfl⟩
  rw [hb6] at HL1 ⊢
  obtain ⟨b5, hb5⟩ : ∃ b, w.heap.size = b := ⟨_, rfl⟩
  rw [hb5] at HL1 ⊢
  clear hw1 hb6 hb5 HL0
  obtain ⟨T', hF, hbk⟩ := HL1.out.frame1 0 rfl
  refine (readE_drop T' w1 c a M q1 q2 (HC.out _ HT1.out) s g es z b5 hq hF hes ((HL1.out.box 1 rfl).cell 0)).mono ?_
  rintro e w2 ⟨y, cc, rest, rfl, hR, hL'⟩
  have hL := hbk _ _ _ hL'
  clear hL' hbk hF
  have HR := Lib.hid hR
  have HL2 := Lib.hid hL
  clear hR hL HL1
  simp only [List.set_cons_zero, List.cons_append, List.nil_append] at HL2
  simp only [ent_eq]
  obtain ⟨r0, r1, r2, r3, r4, r5, r6, ⟨f0, f1, f2, f3, f4, f5, f6⟩, zr, _, _⟩ := HL2.out.c7 2 rfl
  go_wp2
  have HL3 := Lib.hid (HL2.out.setEnt 2 rfl y.sync y.thread y.branch y.flag y.v.kind y.v.num (.slice y.v.addr y.v.parts.length y.v.cap))
  simp only [List.set_cons_zero, List.set_cons_succ] at HL3
  obtain ⟨s0, s1, s2, s3, s4, s5, s6, _⟩ := HL3.out.c7 2 rfl
  refine bodyPost_ret (v := .tuple #[y.val, .bool cc]) (by simp [results, Tryd.results12, go_sem, s0, s1, s2, s3, s4, s5, s6, ent_eq]) rfl ?_
  exact ⟨y, cc, _, rfl, HR.out, HL3.out⟩
/-- Drop, in a greater ledger. -/
theorem Led.chDrop {T : List Nat} {w0 w : World} {l : List Thing} {c : Nat} {a : Int} {M q1 q2 : Nat} {s : Int} {g : Nat} {es : List ME} (h : Led T w0 w l) (i : Nat) (hi : l[i]? = some (queueT g es)) (hc : ChAt w c a M q1 q2) (hq : qOf s q1 q2 = some ⟨g, 0, none⟩) (hes : es.length ≤ 4096) (z : Int) :
    Calls Tryd.prog 12 #[.pointer (some ⟨c, 0, none⟩), .int .i64 s, .int .i64 z] w fun e w' => ∃ y b, e = .returned (.tuple #[y.val, .bool b]) ∧ AtRef es z y b ∧ Led T w0 w' (l.set i (queueT g (if b = true then es.eraseIdx z.toNat else es))) := by
  obtain ⟨T', hF, hbk⟩ := h.frame1 i hi
  refine (Drop_chF T' w c a M q1 q2 hc s g es z hq hF hes).mono ?_
  rintro e w2 ⟨y, cc, rest, rfl, hR, hL'⟩
  exact ⟨y, cc, rfl, hR, hbk _ _ _ hL'⟩
set_option maxHeartbeats 1000000 in
theorem Push_chF (T : List Nat) (w : World) (c : Nat) (a : Int) (M q1 q2 : Nat) (hc : ChAt w c a M q1 q2) (s : Int) (g : Nat) (es : List ME) (P : World → Prop) (x : ME) (hq : qOf s q1 q2 = some ⟨g, 0, none⟩) (h : Led T w w [queueT g es, stillT P]) (hP : ∀ W, P W → x.v.In W) (hes : es.length ≤ 4096) :
    Calls Tryd.prog 13 #[.pointer (some ⟨c, 0, none⟩), .int .i64 s, x.val] w fun e w' => ∃ (k : Nat) (err : Int) (ys : List ME) (rest : List Thing), e = .returned (.int .i64 err) ∧ PushR es.length [x.plain] k err ∧ ys.map ME.plain = [x.plain].take k ∧ Led T w w' (queueT g (es ++ ys) :: stillT (fun W => P W ∧ ∀ y ∈ ys, y.v.In W) :: rest) := by
  have HP := Lib.hid hP
  have HC := Lib.hid (fun W (hW : Touch [] w W) => hc.touch hW)
  have HL0 := Lib.hid h
  clear h hP hc
  simp only [ent_eq]
  go_enter Tryd.func13, Tryd.ntmps13
  go_wp2
  refine wp_scope_fwd 0 rfl ?_
  go_wp2_with fail
  refine wp_calls_name ?_
  intro w1 hw1
  have HT1 : Hid (Touch [] w w1) := hw1 ▸ (Touch.refl [] w).alloc _
  have HL1 := Lib.hid (HL0.out.al1 hw1)
  simp only [List.nil_append, List.cons_append] at HL1
  obtain ⟨b5, hb5⟩ : ∃ b, w.heap.size = b := ⟨_, rfl⟩
  rw [hb5] at HL1 ⊢
  clear hw1 hb5 HL0
  refine (queue_c _ _ _ _ _ _ (HC.out _ HT1.out) s).mono ?_
  rintro e w' ⟨rfl, rfl⟩
  rw [hq]
  go_wp2_with fail
  refine (chnone_no _ _ _ _ _ _ (HC.out _ HT1.out)).mono ?_
  rintro e w' ⟨rfl, rfl⟩
  obtain ⟨x0, x1, x2, x3, x4, x5, x6, _, hl3, _, _⟩ := HL1.out.c7 2 rfl
  have HL2 := Lib.hid (HL1.out.alloc 42 #[.int .i64 x.sync, .int .i64 x.thread, .int .i64 x.branch, .int .i64 x.flag, .int .i64 x.v.kind, .int .i64 x.v.num, .slice x.v.addr x.v.parts.length x.v.cap])
  simp only [List.nil_append, List.cons_append] at HL2
  have HPU := Lib.hid (HL2.out.qPushS (xs := [x]) (a := some ⟨w1.heap.size, 0, none⟩) (cap := 1) 0 1 rfl rfl (by decide) (fun W hW => ⟨ents_box rfl (hW 3 _ (by decide) rfl), fun y hy => by
    simp at hy; subst hy
    obtain ⟨f, _, hs⟩ := hW 1 (stillT P) (by decide) rfl
    exact HP.out W (hs W (fun _ _ => rfl))⟩) (by simp) hes)
  simp only [List.length_cons, List.length_nil, Nat.reduceAdd] at HPU
  go_wp2_with fail
  refine HPU.out.mono ?_
  rintro e w4 ⟨k, err, ys, rfl, hR, hp, hL⟩
  have HL4 := Lib.hid hL
  simp only [List.set_cons_zero, List.set_cons_succ] at HL4
  have HR := Lib.hid hR
  have HPY := Lib.hid hp
  clear hL hR hp HPU HL2 HL1 x0 x1 x2 x3 x4 x5 x6 hl3
  go_wp2
  go_step3
  go_wp2
  refine jump_ret ?_
  go_ret
  exact ⟨k, err, ys, _, rfl, HR.out, HPY.out, HL4.out⟩
theorem Led.chPush {T : List Nat} {w0 w : World} {l : List Thing} {c : Nat} {a : Int} {M q1 q2 : Nat} {s : Int} {g : Nat} {es : List ME} {P : World → Prop} (h : Led T w0 w l) (i j : Nat) (hi : l[i]? = some (queueT g es)) (hj : l[j]? = some (stillT P)) (hij : i ≠ j) (hc : ChAt w c a M q1 q2) (hq : qOf s q1 q2 = some ⟨g, 0, none⟩) (x : ME) (hP : ∀ W, P W → x.v.In W) (hes : es.length ≤ 4096) :
    Calls Tryd.prog 13 #[.pointer (some ⟨c, 0, none⟩), .int .i64 s, x.val] w fun e w' => ∃ (k : Nat) (err : Int) (ys : List ME), e = .returned (.int .i64 err) ∧ PushR es.length [x.plain] k err ∧ ys.map ME.plain = [x.plain].take k ∧ Led T w0 w' ((l.set i (queueT g (es ++ ys))).set j (stillT (fun W => P W ∧ ∀ y ∈ ys, y.v.In W))) := by
  obtain ⟨T', hF, hbk⟩ := h.frame2 i j hi hj hij
  refine (Push_chF T' w c a M q1 q2 hc s g es P x hq hF hP hes).mono ?_
  rintro e w2 ⟨k, err, ys, rest, rfl, hR, hp, hL⟩
  exact ⟨k, err, ys, rfl, hR, hp, hbk _ _ _ _ hL⟩
set_option maxHeartbeats 1000000 in
theorem Push_ch_no (w : World) (c : Nat) (a : Int) (M q1 q2 : Nat) (hc : ChAt w c a M q1 q2) (s : Int) (x : ME) (hq : qOf s q1 q2 = none) :
    Calls Tryd.prog 13 #[.pointer (some ⟨c, 0, none⟩), .int .i64 s, x.val] w fun e w' => e = .returned (.int .i64 2) ∧ Touch [] w w' := by
  have HC := Lib.hid (fun W (hW : Touch [] w W) => hc.touch hW)
  clear hc
  simp only [ent_eq]
  go_enter Tryd.func13, Tryd.ntmps13
  go_wp2
  refine wp_scope_fwd 0 rfl ?_
  go_wp2_with fail
  refine wp_calls_name ?_
  intro w1 hw1
  have HT1 : Hid (Touch [] w w1) := hw1 ▸ (Touch.refl [] w).alloc _
  clear hw1
  refine (queue_c _ _ _ _ _ _ (HC.out _ HT1.out) s).mono ?_
  rintro e w' ⟨rfl, rfl⟩
  rw [hq]
  go_wp2_with fail
  refine (chnone_no _ _ _ _ _ _ (HC.out _ HT1.out)).mono ?_
  rintro e w' ⟨rfl, rfl⟩
  go_wp2
  go_step3
  refine ⟨rfl, ?_⟩
  go_wp2
  refine noGoto_ret' ?_
  go_ret
  exact ⟨rfl, HT1.out⟩
end Go.Proofs.YtihmbgdkllmkaaaDoor

/-
  No arena (nil, or one that New did not make): what each function of layers 1 and 3 tells of it.
-/
namespace Go.Proofs.YtihmbgdkllmkaaaDoor
open Go.RowKit Go.Shelf
set_option maxRecDepth 100000
set_option linter.unusedVariables false
set_option linter.unusedSimpArgs false
attribute [local go_sem] Oper.semAt_some

theorem NoAr.touch {w w' : World} {p : Value} {S : List Nat} (h : NoAr w p) (ht : Touch S w w') (hS : ∀ g, p = .pointer (some ⟨g, 0, none⟩) → g ∉ S) : NoAr w' p := by
  rcases h with h | ⟨g, h, hc⟩
  · exact .inl h
  · refine .inr ⟨g, h, ?_⟩
    rw [World.cell?_of_block (a := ⟨g, 2, none⟩) (ht.block g (World.block_lt_of_cell? w ⟨g, 2, none⟩ hc) (hS g h))]
    exact hc

section
variable (w : World) (pa : Option Addr) (h : NoAr w (.pointer pa))
include h
theorem Alloc_none (n : Int) : Calls Tryd.prog 47 #[.pointer pa, .int .i64 n] w fun e w' => e = .returned (.tuple #[.int .i64 0, .int .i64 1]) ∧ w = w' := by
  have H := Lib.hid h
  clear h
  go_enter Tryd.func47, Tryd.ntmps47
  go_wp2_with (go_at_call 33; refine (missing_yes _ _ H.out).mono ?_; rintro e w' ⟨rfl, rfl⟩)
  go_ret2
  exact ⟨rfl, rfl⟩
theorem Count_none : Calls Tryd.prog 11 #[.pointer pa] w fun e w' => e = .returned (.int .u64 0) ∧ w = w' := by
  have H := Lib.hid h
  clear h
  go_enter Tryd.func11, Tryd.ntmps11
  go_wp2_with (go_at_call 33; refine (missing_yes _ _ H.out).mono ?_; rintro e w' ⟨rfl, rfl⟩)
  go_ret
  exact ⟨rfl, rfl⟩
theorem Swap_none (at_ x y : Int) : Calls Tryd.prog 87 #[.pointer pa, .int .i64 at_, .int .u64 x, .int .u64 y] w fun e w' => e = .returned (.tuple #[.int .u64 0, .bool false, .int .i64 1]) ∧ Touch [] w w' := by
  have H := Lib.hid h
  clear h
  go_enter Tryd.func87, Tryd.ntmps87
  go_wp2_with fail
  refine (access_none _ _ _ _ _ (H.out.touch (((Touch.refl [] w).alloc _).alloc _) (by simp))).mono ?_
  rintro e w' ⟨rfl, rfl⟩
  go_wp2
  refine bodyPost_ret (v := .tuple #[.int .u64 0, .bool false, .int .i64 1]) (by simp [results, go_sem]) rfl ⟨rfl, ((Touch.refl [] w).alloc _).alloc _⟩
theorem SpinNew_none : Calls Tryd.prog 31 #[.pointer pa] w fun e w' => e = .returned (.tuple #[.int .i64 0, .int .i64 1]) ∧ w = w' := by
  have H := Lib.hid h
  clear h
  go_enter Tryd.func31, Tryd.ntmps31
  go_wp2_with fail
  refine (Alloc_none _ _ H.out _).mono ?_
  rintro e w' ⟨rfl, rfl⟩
  go_wp2
  go_ret2
  exact ⟨rfl, rfl⟩
theorem Try_none (at_ : Int) : Calls Tryd.prog 76 #[.pointer pa, .int .i64 at_] w fun e w' => e = .returned (.tuple #[.bool false, .int .i64 1]) ∧ Touch [] w w' := by
  have H := Lib.hid h
  clear h
  go_enter Tryd.func76, Tryd.ntmps76
  go_wp2_with fail
  refine (Swap_none _ _ H.out _ _ _).mono ?_
  rintro e w' ⟨rfl, ht⟩
  have HT := Lib.hid ht
  clear ht
  go_wp2
  go_ret2
  exact ⟨rfl, HT.out⟩
theorem Free_none (at_ : Int) : Calls Tryd.prog 77 #[.pointer pa, .int .i64 at_] w fun e w' => e = .returned (.int .i64 1) ∧ Touch [] w w' := by
  have H := Lib.hid h
  clear h
  go_enter Tryd.func77, Tryd.ntmps77
  go_wp2_with fail
  refine (Swap_none _ _ H.out _ _ _).mono ?_
  rintro e w' ⟨rfl, ht⟩
  have HT := Lib.hid ht
  clear ht
  go_wp2
  go_ret
  exact ⟨rfl, HT.out⟩
end
end Go.Proofs.YtihmbgdkllmkaaaDoor

/-
  Layer 14 (channel.go): what is told of no channel; Other.
-/
namespace Go.Proofs.YtihmbgdkllmkaaaDoor
open Go.RowKit Go.Shelf
set_option maxRecDepth 100000
set_option linter.unusedVariables false
set_option linter.unusedSimpArgs false

/-- No channel: none, or one without queues. -/
def NoCh (w : World) (p : Option Addr) : Prop := p = none ∨ ∃ b, p = some ⟨b, 0, none⟩ ∧ w.cell? ⟨b, 1, none⟩ = some (.map none)
theorem NoCh.touch {w w' : World} {p : Option Addr} (h : NoCh w p) (ht : Touch [] w w') : NoCh w' p := by
  rcases h with rfl | ⟨b, rfl, hb⟩
  · exact .inl rfl
  · exact .inr ⟨b, rfl, ht.cellOf hb⟩
theorem mapq_none (w : World) : (binOp .eql 73 (.map none) (.map none)).run Tryd.prog w = .ok (.bool true) w := by kernel_rfl
theorem chnone_yes (p : Option Addr) (w : World) (h : NoCh w p) : Calls Tryd.prog 38 #[.pointer p] w fun e w' => e = .returned (.bool true) ∧ w = w' := by
  have hmn := mapq_none w
  rcases h with rfl | ⟨b, rfl, hb⟩
  · go_enter Tryd.func38, Tryd.ntmps38
    go_wp2
    go_ret
    exact ⟨rfl, rfl⟩
  · have hbl : b < w.heap.size := World.block_lt_of_cell? _ _ hb
    go_enter Tryd.func38, Tryd.ntmps38
    go_wp2
    go_ret
    exact ⟨rfl, rfl⟩
section
variable (w : World) (p : Option Addr) (h : NoCh w p)
include h
theorem chLock_n (a : Option Addr) : Calls Tryd.prog 21 #[.pointer p, .pointer a] w fun e w' => e = .returned (.tuple #[.bool false, .int .i64 1]) ∧ w = w' := by
  have H := Lib.hid h
  clear h
  go_enter Tryd.func21, Tryd.ntmps21
  go_wp2_with fail
  refine (chnone_yes _ _ H.out).mono ?_
  rintro e w' ⟨rfl, rfl⟩
  go_wp2
  go_ret2
  exact ⟨rfl, rfl⟩
theorem chUnlock_n (a : Option Addr) : Calls Tryd.prog 22 #[.pointer p, .pointer a] w fun e w' => e = .returned (.int .i64 1) ∧ w = w' := by
  have H := Lib.hid h
  clear h
  go_enter Tryd.func22, Tryd.ntmps22
  go_wp2_with fail
  refine (chnone_yes _ _ H.out).mono ?_
  rintro e w' ⟨rfl, rfl⟩
  go_wp2
  go_ret
  exact ⟨rfl, rfl⟩
theorem chCell_n : Calls Tryd.prog 25 #[.pointer p] w fun e w' => e = .returned (.int .i64 0) ∧ w = w' := by
  have H := Lib.hid h
  clear h
  go_enter Tryd.func25, Tryd.ntmps25
  go_wp2_with fail
  refine (chnone_yes _ _ H.out).mono ?_
  rintro e w' ⟨rfl, rfl⟩
  go_wp2
  go_ret
  exact ⟨rfl, rfl⟩
theorem chCopy_n : Calls Tryd.prog 26 #[.pointer p] w fun e w' => e = .returned (.pointer none) ∧ w = w' := by
  have H := Lib.hid h
  clear h
  go_enter Tryd.func26, Tryd.ntmps26
  go_wp2_with fail
  refine (chnone_yes _ _ H.out).mono ?_
  rintro e w' ⟨rfl, rfl⟩
  go_wp2
  go_ret
  exact ⟨rfl, rfl⟩
theorem queue_n (s : Int) : Calls Tryd.prog 37 #[.pointer p, .int .i64 s] w fun e w' => e = .returned (.pointer none) ∧ w = w' := by
  have H := Lib.hid h
  clear h
  go_enter Tryd.func37, Tryd.ntmps37
  go_wp2_with fail
  refine (chnone_yes _ _ H.out).mono ?_
  rintro e w' ⟨rfl, rfl⟩
  go_wp2
  go_ret
  exact ⟨rfl, rfl⟩
theorem chAll_n (s : Int) : Calls Tryd.prog 24 #[.pointer p, .int .i64 s] w (AllTold [] w) := by
  have H := Lib.hid (fun W (hW : Touch [] w W) => h.touch hW)
  clear h
  go_enter Tryd.func24, Tryd.ntmps24
  go_wp2_with fail
  refine (queue_n _ _ (H.out _ (Touch.refl [] w)) s).mono ?_
  rintro e w' ⟨rfl, rfl⟩
  go_wp2_with fail
  refine (All_n w none (.inl rfl)).mono ?_
  rintro e w' ⟨bx, rfl, hL⟩
  have HL := Lib.hid hL
  clear hL
  go_wp2
  go_ret
  exact ⟨bx, none, 0, [], rfl, rfl, HL.out⟩
theorem chLen_n (s : Int) : Calls Tryd.prog 15 #[.pointer p, .int .i64 s] w fun e w' => e = .returned (.int .i64 0) ∧ w = w' := by
  have H := Lib.hid (fun W (hW : Touch [] w W) => h.touch hW)
  have HR : Hid (Calls Tryd.prog 40 #[.pointer p, .int .i64 s, .func (.func 41) #[] #[]] w fun e w' => e = .returned (.tuple #[.int .i64 0, .bool false]) ∧ w = w') := by
    unfold Hid
    go_enter Tryd.func40, Tryd.ntmps40
    go_wp2_with fail
    refine (queue_n _ _ (H.out _ (Touch.refl [] w)) s).mono ?_
    rintro e w' ⟨rfl, rfl⟩
    go_wp2
    go_ret2
    exact ⟨rfl, rfl⟩
  clear h
  go_enter Tryd.func15, Tryd.ntmps15
  go_wp2_with fail
  refine HR.out.mono ?_
  rintro e w' ⟨rfl, rfl⟩
  go_wp2
  go_ret
  exact ⟨rfl, rfl⟩
set_option maxHeartbeats 1000000 in
theorem readE_n (s : Int) (fn : Fn) (xs ys : Array Value) :
    Calls Tryd.prog 34 #[.pointer p, .int .i64 s, .func fn xs ys] w fun e w' => e = .returned (.tuple #[ME.zero.val, .bool false]) ∧ Touch [] w w' := by
  have H := Lib.hid (fun W (hW : Touch [] w W) => h.touch hW)
  clear h
  go_enter Tryd.func34, Tryd.ntmps34
  go_wp2_with fail
  refine wp_calls_name ?_
  intro w1 hw1
  have HL1 := Lib.hid ((Led.nil' w).al1 hw1)
  simp only [List.nil_append] at HL1
  obtain ⟨b6, hb6⟩ : ∃ b, w.heap.size = b := ⟨_, rfl⟩
  rw [hb6] at HL1 ⊢
  clear hw1 hb6
  go_wp2_with fail
  refine (queue_n _ _ (H.out _ HL1.out.tch) s).mono ?_
  rintro e w' ⟨rfl, rfl⟩
  obtain ⟨r0, r1, r2, r3, r4, r5, r6, ⟨f0, f1, f2, f3, f4, f5, f6⟩, zr, _, _⟩ := HL1.out.c7 0 rfl
  have m1 : b6 ≠ w1.heap.size := by omega
  have m2 := Ne.symm m1
  go_wp2
  refine post_nameQ ?_
  intro w2 hw2
  have HL3 := Lib.hid (((HL1.out.setEnt 0 rfl 0 0 0 0 0 0 (.slice none 0 0)).alloc 42 #[.int .i64 0, .int .i64 0, .int .i64 0, .int .i64 0, .int .i64 0, .int .i64 0, .slice none 0 0]).via hw2)
  simp only [List.set_cons_zero, List.set_cons_succ, List.cons_append, List.nil_append] at HL3
  obtain ⟨s0, s1, s2, s3, s4, s5, s6, _⟩ := HL3.out.c7 0 rfl
  have hzv : ME.zero.val = .agg #[.int .i64 0, .int .i64 0, .int .i64 0, .int .i64 0, .int .i64 0, .int .i64 0, .slice none 0 0] := rfl
  refine bodyPost_ret (v := .tuple #[.agg #[.int .i64 0, .int .i64 0, .int .i64 0, .int .i64 0, .int .i64 0, .int .i64 0, .slice none 0 0], .bool false]) (by simp [results, Tryd.results34, go_sem, s0, s1, s2, s3, s4, s5, s6]) rfl ?_
  exact ⟨by rw [hzv], HL3.out.tch⟩
set_option maxHeartbeats 1000000 in
theorem chLook_n (s i : Int) : Calls Tryd.prog 16 #[.pointer p, .int .i64 s, .int .i64 i] w fun e w' => e = .returned (.tuple #[ME.zero.val, .bool false]) ∧ Touch [] w w' := by
  have HLK := Lib.hid (fun W (hW : Touch [] w W) fn xs ys => readE_n W p (h.touch hW) s fn xs ys)
  clear h
  go_enter Tryd.func16, Tryd.ntmps16
  go_wp2_with fail
  refine wp_calls_name ?_
  intro w1 hw1
  have HL1 := Lib.hid ((Led.nil' w).al2 hw1)
  simp only [List.nil_append, List.cons_append] at HL1
  obtain ⟨b6, hb6⟩ : ∃ b, w.heap.size + 1 = b := ⟨_, rfl⟩
  rw [hb6] at HL1 ⊢
  obtain ⟨b5, hb5⟩ : ∃ b, w.heap.size = b := ⟨_, rfl⟩
  rw [hb5] at HL1 ⊢
  clear hw1 hb6 hb5
  refine (HLK.out _ HL1.out.tch _ _ _).mono ?_
  rintro e w2 ⟨rfl, ht⟩
  have HL2 := Lib.hid (HL1.out.touch ht)
  clear ht HL1
  have hzv : ME.zero.val = .agg #[.int .i64 0, .int .i64 0, .int .i64 0, .int .i64 0, .int .i64 0, .int .i64 0, .slice none 0 0] := rfl
  rw [hzv]
  obtain ⟨r0, r1, r2, r3, r4, r5, r6, ⟨f0, f1, f2, f3, f4, f5, f6⟩, zr, _, _⟩ := HL2.out.c7 1 rfl
  go_wp2
  have HL3 := Lib.hid (HL2.out.setEnt 1 rfl 0 0 0 0 0 0 (.slice none 0 0))
  simp only [List.set_cons_zero, List.set_cons_succ] at HL3
  obtain ⟨s0, s1, s2, s3, s4, s5, s6, _⟩ := HL3.out.c7 1 rfl
  refine bodyPost_ret (v := .tuple #[.agg #[.int .i64 0, .int .i64 0, .int .i64 0, .int .i64 0, .int .i64 0, .int .i64 0, .slice none 0 0], .bool false]) (by simp [results, Tryd.results16, go_sem, s0, s1, s2, s3, s4, s5, s6]) rfl ?_
  exact ⟨rfl, HL3.out.tch⟩
set_option maxHeartbeats 1000000 in
theorem chDrop_n (s i : Int) : Calls Tryd.prog 12 #[.pointer p, .int .i64 s, .int .i64 i] w fun e w' => e = .returned (.tuple #[ME.zero.val, .bool false]) ∧ Touch [] w w' := by
  have HLK := Lib.hid (fun W (hW : Touch [] w W) fn xs ys => readE_n W p (h.touch hW) s fn xs ys)
  clear h
  go_enter Tryd.func12, Tryd.ntmps12
  go_wp2_with fail
  refine wp_calls_name ?_
  intro w1 hw1
  have HL1 := Lib.hid ((Led.nil' w).al2 hw1)
  simp only [List.nil_append, List.cons_append] at HL1
  obtain ⟨b6, hb6⟩ : ∃ b, w.heap.size + 1 = b := ⟨_, rfl⟩
  rw [hb6] at HL1 ⊢
  obtain ⟨b5, hb5⟩ : ∃ b, w.heap.size = b := ⟨_, rfl⟩
  rw [hb5] at HL1 ⊢
  clear hw1 hb6 hb5
  refine (HLK.out _ HL1.out.tch _ _ _).mono ?_
  rintro e w2 ⟨rfl, ht⟩
  have HL2 := Lib.hid (HL1.out.touch ht)
  clear ht HL1
  have hzv : ME.zero.val = .agg #[.int .i64 0, .int .i64 0, .int .i64 0, .int .i64 0, .int .i64 0, .int .i64 0, .slice none 0 0] := rfl
  rw [hzv]
  obtain ⟨r0, r1, r2, r3, r4, r5, r6, ⟨f0, f1, f2, f3, f4, f5, f6⟩, zr, _, _⟩ := HL2.out.c7 1 rfl
  go_wp2
  have HL3 := Lib.hid (HL2.out.setEnt 1 rfl 0 0 0 0 0 0 (.slice none 0 0))
  simp only [List.set_cons_zero, List.set_cons_succ] at HL3
  obtain ⟨s0, s1, s2, s3, s4, s5, s6, _⟩ := HL3.out.c7 1 rfl
  refine bodyPost_ret (v := .tuple #[.agg #[.int .i64 0, .int .i64 0, .int .i64 0, .int .i64 0, .int .i64 0, .int .i64 0, .slice none 0 0], .bool false]) (by simp [results, Tryd.results12, go_sem, s0, s1, s2, s3, s4, s5, s6]) rfl ?_
  exact ⟨rfl, HL3.out.tch⟩
set_option maxHeartbeats 1000000 in
theorem chPush_n (s : Int) (x : ME) : Calls Tryd.prog 13 #[.pointer p, .int .i64 s, x.val] w fun e w' => e = .returned (.int .i64 1) ∧ Touch [] w w' := by
  have H := Lib.hid (fun W (hW : Touch [] w W) => h.touch hW)
  clear h
  simp only [ent_eq]
  go_enter Tryd.func13, Tryd.ntmps13
  go_wp2
  refine wp_scope_fwd 0 rfl ?_
  go_wp2_with fail
  refine wp_calls_name ?_
  intro w1 hw1
  have HT1 : Hid (Touch [] w w1) := hw1 ▸ (Touch.refl [] w).alloc _
  clear hw1
  refine (queue_n _ _ (H.out _ HT1.out) s).mono ?_
  rintro e w' ⟨rfl, rfl⟩
  go_wp2_with fail
  refine (chnone_yes _ _ (H.out _ HT1.out)).mono ?_
  rintro e w' ⟨rfl, rfl⟩
  go_wp2
  go_step3
  refine ⟨rfl, ?_⟩
  go_wp2
  refine noGoto_ret' ?_
  go_ret
  exact ⟨rfl, HT1.out⟩
end
theorem chNew_nil (w : World) : Calls Tryd.prog 9 #[.pointer none] w fun e w' => e = .returned (.tuple #[.pointer none, .int .i64 1]) ∧ Touch [] w w' := by
  have HA := Lib.hid (SpinNew_none w none (.inl rfl))
  go_enter Tryd.func9, Tryd.ntmps9
  go_wp2
  refine wp_scope_fwd 0 rfl ?_
  go_wp2_with fail
  refine HA.out.mono ?_
  rintro e w1 ⟨rfl, rfl⟩
  go_wp2
  go_step3
  refine ⟨rfl, ?_⟩
  go_wp2
  refine noGoto_ret' ?_
  go_ret2
  exact ⟨rfl, Touch.refl _ _⟩
theorem chSame_nil_in (n : Nat) (w : World) (p : Option Addr) (h : NoCh w p) : CallsIn Fence.wide n Tryd.prog 27 #[.pointer p, .pointer none] w fun e w' => e = .returned (.bool true) ∧ Touch [] w w' := by
  have HT := Lib.hid ((Touch.refl [] w).alloc (.cells #[.pointer none] 30))
  have H := Lib.hid (h.touch HT.out)
  clear h
  refine callsIn_of_wp_marks Tryd.func27 rfl trivial ?_ rfl
  simp only [Tryd.ntmps27, List.size_toArray, List.length_cons, List.length_nil, Nat.reduceAdd, Nat.reduceSub, Array.replicate_succ, Array.replicate_zero, List.push_toArray, List.append_toArray, List.nil_append, List.cons_append]
  gi_wp2_with fail
  refine ⟨trivial, nodepth, ?_⟩
  refine (callsIn_wide.2 (chnone_yes _ _ H.out)).mono ?_
  rintro e w' ⟨rfl, rfl⟩
  gi_wp2_with fail
  refine ⟨trivial, ?_⟩
  gi_wp2_with fail
  refine ⟨trivial, nodepth, ?_⟩
  refine (callsIn_wide.2 (chnone_yes _ _ H.out)).mono ?_
  rintro e w' ⟨rfl, rfl⟩
  gi_wp2_with fail
  refine ⟨trivial, nodepth, ?_⟩
  refine (callsIn_wide.2 (chnone_yes none _ (.inl rfl))).mono ?_
  rintro e w' ⟨rfl, rfl⟩
  gi_wp2
  exact leave_marks (v := .bool true) [] _ (by simp) (by simp) (by simp [shutAll, results, Tryd.results27, go_sem]) ⟨rfl, HT.out⟩
theorem chSame_nil (w : World) (p : Option Addr) (h : NoCh w p) : Calls Tryd.prog 27 #[.pointer p, .pointer none] w fun e w' => e = .returned (.bool true) ∧ Touch [] w w' := (callsIn_wide (n := 0)).1 (chSame_nil_in 0 w p h)
theorem chSame_left_in (n : Nat) (w : World) (p : Option Addr) (h : NoCh w p) (c : Nat) (a : Int) (M q1 q2 : Nat) (hc : ChAt w c a M q1 q2) : CallsIn Fence.wide n Tryd.prog 27 #[.pointer p, .pointer (some ⟨c, 0, none⟩)] w fun e w' => e = .returned (.bool false) ∧ Touch [] w w' := by
  have HT := Lib.hid ((Touch.refl [] w).alloc (.cells #[.pointer (some ⟨c, 0, none⟩)] 30))
  have H := Lib.hid (h.touch HT.out)
  have HC := Lib.hid (hc.touch HT.out)
  clear h hc
  refine callsIn_of_wp_marks Tryd.func27 rfl trivial ?_ rfl
  simp only [Tryd.ntmps27, List.size_toArray, List.length_cons, List.length_nil, Nat.reduceAdd, Nat.reduceSub, Array.replicate_succ, Array.replicate_zero, List.push_toArray, List.append_toArray, List.nil_append, List.cons_append]
  gi_wp2_with fail
  refine ⟨trivial, nodepth, ?_⟩
  refine (callsIn_wide.2 (chnone_yes _ _ H.out)).mono ?_
  rintro e w' ⟨rfl, rfl⟩
  gi_wp2_with fail
  refine ⟨trivial, ?_⟩
  gi_wp2_with fail
  refine ⟨trivial, nodepth, ?_⟩
  refine (callsIn_wide.2 (chnone_yes _ _ H.out)).mono ?_
  rintro e w' ⟨rfl, rfl⟩
  gi_wp2_with fail
  refine ⟨trivial, nodepth, ?_⟩
  refine (callsIn_wide.2 (chnone_no _ _ _ _ _ _ HC.out)).mono ?_
  rintro e w' ⟨rfl, rfl⟩
  gi_wp2
  exact leave_marks (v := .bool false) [] _ (by simp) (by simp) (by simp [shutAll, results, Tryd.results27, go_sem]) ⟨rfl, HT.out⟩
theorem chSame_left (w : World) (p : Option Addr) (h : NoCh w p) (c : Nat) (a : Int) (M q1 q2 : Nat) (hc : ChAt w c a M q1 q2) : Calls Tryd.prog 27 #[.pointer p, .pointer (some ⟨c, 0, none⟩)] w fun e w' => e = .returned (.bool false) ∧ Touch [] w w' := (callsIn_wide (n := 0)).1 (chSame_left_in 0 w p h c a M q1 q2 hc)
theorem idxS0 (W : World) : (Instr.index 99 (.agg #[.int .i64 1, .int .i64 2]) (.int .i64 0)).run Tryd.prog W = .ok (.int .i64 1) W := by kernel_rfl
theorem idxS1 (W : World) : (Instr.index 99 (.agg #[.int .i64 1, .int .i64 2]) (.int .i64 1)).run Tryd.prog W = .ok (.int .i64 2) W := by kernel_rfl
def otherOf (s : Int) : Int := if s = 1 then 2 else if s = 2 then 1 else 0
set_option maxHeartbeats 1000000 in
theorem Other_c (w : World) (s : Int) (hS : SidesAt w) : Calls Tryd.prog 30 #[.int .i64 s] w fun e w' => e = .returned (.int .i64 (otherOf s)) ∧ w = w' := by
  obtain ⟨t0, t1⟩ := hS
  have tl : 0 < w.heap.size := World.block_lt_of_cell? _ _ t0
  go_enter Tryd.func30, Tryd.ntmps30
  go_wp2_with fail
  go_loopw [6] (fun i wr => wr = w ∧ (i = .int .i64 0 ∨ (i = .int .i64 1 ∧ s ≠ 1) ∨ (i = .int .i64 2 ∧ s ≠ 1 ∧ s ≠ 2))) (fun i _ => 2 - (intOf i).toNat)
  case atStart => exact ⟨rfl, .inl rfl⟩
  case round =>
    obtain ⟨rfl, rfl | ⟨rfl, h1⟩ | ⟨rfl, h1, h2⟩⟩ := hrel
    · have hi := idxS0 wr
      by_cases hs : s = 1
      · subst hs
        go_wp2
        go_ret
        exact ⟨rfl, rfl⟩
      · have hs' : ¬ (1 : Int) = s := fun e => hs e.symm
        go_wp2
        clear hi
        go_roundw
        case rel => exact ⟨trivial, .inr (.inl ⟨by go_num, hs⟩)⟩
        case measure => simp [intOf]
    · have hi := idxS1 wr
      by_cases hs : s = 2
      · subst hs
        go_wp2
        go_ret
        exact ⟨rfl, rfl⟩
      · have hs' : ¬ (2 : Int) = s := fun e => hs e.symm
        go_wp2
        clear hi
        go_roundw
        case rel => exact ⟨trivial, .inr (.inr ⟨by go_num, h1, hs⟩)⟩
        case measure => simp [intOf]
    · have ho : otherOf s = 0 := by unfold otherOf; rw [if_neg h1, if_neg h2]
      go_wp2
      go_ret
      exact ⟨by rw [ho]; rfl, rfl⟩
end Go.Proofs.YtihmbgdkllmkaaaDoor

/-
  The law's works() of layer 14 (betrothallaw14/law.go): it returns true, and nothing that was there has turned.
-/
namespace Go.Proofs.YtihmbgdkllmkaaaDoor
open Go.RowKit Go.Shelf
set_option maxRecDepth 100000
set_option linter.unusedVariables false
set_option linter.unusedSimpArgs false
attribute [local go_sem] Oper.semAt_some

theorem one_of {ys : List ME} {a : PE} (h : ys.map ME.plain = [a]) : ∃ y, ys = [y] ∧ y.plain = a := by
  match ys, h with
  | [y], h => simp at h; exact ⟨y, rfl, h⟩
theorem num14 (n : Int) (w : World) : Calls Tryd.prog 10 #[.int .i64 n] w fun e w' => e = .returned (.int .i64 n) ∧ w = w' := by
  go_enter Tryd.func10, Tryd.ntmps10
  go_wp2
  go_ret
  exact ⟨rfl, rfl⟩
theorem build_sync (s : Int) (w : World) : (Instr.build 42 #[(0, .int .i64 s)]).run Tryd.prog w = .ok (ofE s 0).val w := run_build w 42 _ _ (by kernel_rfl)
attribute [local go_sem] build_sync
theorem sync14 (s : Int) (w : World) : Calls Tryd.prog 14 #[.int .i64 s] w fun e w' => e = .returned (ofE s 0).val ∧ Touch [] w w' := by
  have HT := Lib.hid ((Touch.refl [] w).alloc (.cells #[.int .i64 s, .int .i64 0, .int .i64 0, .int .i64 0, .int .i64 0, .int .i64 0, .slice none 0 0] 42))
  go_enter Tryd.func14, Tryd.ntmps14
  go_wp2
  refine bodyPost_ret (v := .agg #[.int .i64 s, .int .i64 0, .int .i64 0, .int .i64 0, .int .i64 0, .int .i64 0, .slice none 0 0]) (by simp [results, Tryd.results14, go_sem]) rfl ⟨rfl, HT.out⟩
theorem zero_valW : ME.zero.val = .agg #[.int .i64 0, .int .i64 0, .int .i64 0, .int .i64 0, .int .i64 0, .int .i64 0, .slice none 0 0] := rfl
/-- A thing that says nothing. -/
theorem Led.addStill {T : List Nat} {w0 w : World} {l : List Thing} (h : Led T w0 w l) : Led T w0 w (l ++ [stillT (fun _ => True)]) :=
  h.new (t' := stillT (fun _ => True)) (f' := []) ⟨by simp, fun _ _ => trivial⟩ ⟨Touch.refl _ _, by simp⟩
theorem Led.sub1 {T : List Nat} {w0 w : World} {a0 a1 a2 a3 a4 a5 a6 a7 a8 a9 a10 t : Thing} (h : Led T w0 w [a0, a1, a2, a3, a4, a5, a6, a7, a8, a9, a10, t]) : Led T w0 w [a0, a1, a2, a3, a4, a5, a6, a7, a8, a9, a10] := h.sel [0, 1, 2, 3, 4, 5, 6, 7, 8, 9, 10] rfl (by decide)
/-- An arena of three cells, of which some are allotted. -/
def ar3 (C : List Nat) (L : List Acc) : Ar := ⟨C, 3, L⟩
/-- A push of a number that may be. -/
theorem Led.pushOk {T : List Nat} {w0 w : World} {l : List Thing} {c : Nat} {a : Int} {M q1 q2 : Nat} {s : Int} {g : Nat} {es : List ME} {P : World → Prop} (h : Led T w0 w l) (i j : Nat) (hi : l[i]? = some (queueT g es)) (hj : l[j]? = some (stillT P)) (hij : i ≠ j) (hc : ChAt w c a M q1 q2) (hq : qOf s q1 q2 = some ⟨g, 0, none⟩) (n : Int) (hn : 0 ≤ n) (hes : es.length < 4096) :
    Calls Tryd.prog 13 #[.pointer (some ⟨c, 0, none⟩), .int .i64 s, (ofE n 0).val] w fun e w' => ∃ y, e = .returned (.int .i64 0) ∧ y.plain = pOf n 0 ∧ Led T w0 w' ((l.set i (queueT g (es ++ [y]))).set j (stillT (fun W => P W ∧ y.v.In W))) := by
  refine (h.chPush i j hi hj hij hc hq (ofE n 0) (fun W _ => MT.in_zero W) (by omega)).mono ?_
  rintro e w' ⟨k, err, ys, rfl, hR, hp, hL⟩
  obtain ⟨rfl, rfl⟩ := hR.all (fun p hp => by simp at hp; rw [hp]; exact pOf_ok hn (Int.le_refl 0)) (by simp; omega)
  obtain ⟨y, rfl, hy⟩ := one_of (a := pOf n 0) hp
  refine ⟨y, rfl, hy, ?_⟩
  have e1 : (fun W => P W ∧ ∀ y' ∈ [y], y'.v.In W) = (fun W => P W ∧ y.v.In W) := by funext W; simp
  rw [e1] at hL
  exact hL
theorem nodes_of {y : ME} {n : Int} (h : y.plain = pOf n 0) : y.v.nodes ≤ 256 := by
  rw [plain_nodes_eq (y := ofE n 0) (show (ofE n 0).plain = y.plain from h.symm)]
  show (1 : Nat) + 0 ≤ 256
  omega
theorem lock_a : (ar3 [0, 0] []).swap 1 0 1 = (ar3 [0, 1] [⟨3, 1, 0, 1, true⟩], ⟨3, 1, 0, 1, true⟩, 0) := rfl
theorem lock_b : (ar3 [0, 1] [⟨3, 1, 0, 1, true⟩]).swap 1 0 1 = (ar3 [0, 1] [⟨3, 1, 0, 1, true⟩, ⟨3, 1, 1, 1, false⟩], ⟨3, 1, 1, 1, false⟩, 0) := rfl
theorem unlock_a : (ar3 [0, 1] [⟨3, 1, 0, 1, true⟩, ⟨3, 1, 1, 1, false⟩]).freeE 1 = 0 ∧ ((ar3 [0, 1] [⟨3, 1, 0, 1, true⟩, ⟨3, 1, 1, 1, false⟩]).swap 1 1 0).1 = ar3 [0, 0] [⟨3, 1, 0, 1, true⟩, ⟨3, 1, 1, 1, false⟩, ⟨3, 1, 1, 0, true⟩] := ⟨rfl, rfl⟩
theorem unlock_b : (ar3 [0, 0] [⟨3, 1, 0, 1, true⟩, ⟨3, 1, 1, 1, false⟩, ⟨3, 1, 1, 0, true⟩]).freeE 1 = 30 ∧ ((ar3 [0, 0] [⟨3, 1, 0, 1, true⟩, ⟨3, 1, 1, 1, false⟩, ⟨3, 1, 1, 0, true⟩]).swap 1 1 0).1 = ar3 [0, 0] [⟨3, 1, 0, 1, true⟩, ⟨3, 1, 1, 1, false⟩, ⟨3, 1, 1, 0, true⟩, ⟨3, 1, 0, 0, false⟩] := ⟨rfl, rfl⟩
set_option maxHeartbeats 4000000 in
theorem works14 (w : World) (hS : SidesAt w) : Calls Tryd.prog 7 #[] w fun e w' => e = .returned (.bool true) ∧ Touch [] w w' := by
  have HS := Lib.hid hS
  clear hS
  go_enter Tryd.func7, Tryd.ntmps7
  go_wp2_with fail
  refine ((Led.nil' w).arNew 3 (by omega) (by omega)).mono ?_
  rintro e w1 ⟨rfl, hh⟩
  have HL1 : Hid (Led [] w w1 [arena w.heap.size (ar3 [] []), stillT (fun _ => True)]) := hh.addStill
  obtain ⟨g, hg⟩ : ∃ b, w.heap.size = b := ⟨_, rfl⟩
  rw [hg] at HL1 ⊢
  clear hh hg
  go_wp2_with fail
  refine (HL1.out.chNew 0 rfl (fun W h => HS.out.touch h.tch) (by decide)).mono ?_
  rintro e w2 ⟨c, M, q1, q2, rfl, hL⟩
  have HL2 : Hid (Led [] w w2 ([arena g (ar3 [0] []), stillT (fun _ => True)] ++ chanL c 0 M q1 q2 [] [])) := hL
  clear hL HL1
  go_wp2_with fail
  refine (HL2.out.chNew 0 rfl (fun W h => HS.out.touch h.tch) (by decide)).mono ?_
  rintro e w3 ⟨d, N, p1, p2, rfl, hL⟩
  have HL : Hid (Led [] w w3 (([arena g (ar3 [0, 0] []), stillT (fun _ => True)] ++ chanL c 0 M q1 q2 [] []) ++ chanL d 1 N p1 p2 [] [])) := hL
  clear hL HL2
  simp only [chanL, List.cons_append, List.nil_append] at HL
  have hA := HL.out.chLock 0 rfl (HL.out.chAt 6 7 rfl rfl) (by decide)
  rw [lock_a] at hA
  go_wp2_with fail
  refine hA.mono ?_
  clear hA
  rintro e w4 ⟨rfl, hL⟩
  have HLN := Lib.hid hL
  simp only [List.set_cons_zero, List.set_cons_succ, List.cons_append, List.nil_append] at HLN
  clear hL HL
  have HL := Lib.hid HLN.out
  clear HLN
  have hA := HL.out.chLock 0 rfl (HL.out.chAt 6 7 rfl rfl) (by decide)
  rw [lock_b] at hA
  go_wp2_with fail
  refine hA.mono ?_
  clear hA
  rintro e w5 ⟨rfl, hL⟩
  have HLN := Lib.hid hL
  simp only [List.set_cons_zero, List.set_cons_succ, List.cons_append, List.nil_append] at HLN
  clear hL HL
  have HL := Lib.hid HLN.out
  clear HLN
  have hA := HL.out.chUnlock 0 rfl (HL.out.chAt 6 7 rfl rfl) (by decide)
  rw [unlock_a.1, unlock_a.2] at hA
  go_wp2_with fail
  refine hA.mono ?_
  clear hA
  rintro e w6 ⟨rfl, hL⟩
  have HLN := Lib.hid hL
  simp only [List.set_cons_zero, List.set_cons_succ, List.cons_append, List.nil_append] at HLN
  clear hL HL
  have HL := Lib.hid HLN.out
  clear HLN
  have hA := HL.out.chUnlock 0 rfl (HL.out.chAt 6 7 rfl rfl) (by decide)
  rw [unlock_b.1, unlock_b.2] at hA
  go_wp2_with fail
  refine hA.mono ?_
  clear hA
  rintro e w7 ⟨rfl, hL⟩
  have HLN := Lib.hid hL
  simp only [List.set_cons_zero, List.set_cons_succ, List.cons_append, List.nil_append] at HLN
  clear hL HL
  have HL := Lib.hid HLN.out
  clear HLN
  go_wp2_with fail
  refine (num14 _ _).mono ?_
  rintro e wn ⟨rfl, rfl⟩
  go_wp2_with fail
  refine (num14 _ _).mono ?_
  rintro e wn ⟨rfl, rfl⟩
  go_wp2_with fail
  refine (num14 _ _).mono ?_
  rintro e wn ⟨rfl, rfl⟩
  go_wp2_with fail
  refine (num14 _ _).mono ?_
  rintro e wn ⟨rfl, rfl⟩
  go_wp2_with fail
  refine (num14 _ _).mono ?_
  rintro e wn ⟨rfl, rfl⟩
  go_wp2_with fail
  refine (num14 _ _).mono ?_
  rintro e wn ⟨rfl, rfl⟩
  go_wp2_with fail
  refine (Cell_ch _ _ _ _ _ _ (HL.out.chAt 2 3 rfl rfl)).mono ?_
  rintro e wn ⟨rfl, rfl⟩
  go_wp2_with fail
  refine (Cell_ch _ _ _ _ _ _ (HL.out.chAt 6 7 rfl rfl)).mono ?_
  rintro e wn ⟨rfl, rfl⟩
  go_wp2_with fail
  refine (num14 _ _).mono ?_
  rintro e wn ⟨rfl, rfl⟩
  go_wp2_with fail
  refine (sync14 _ _).mono ?_
  rintro e w8 ⟨rfl, ht⟩
  have HLN := Lib.hid (HL.out.touch ht)
  clear ht HL
  have HL := Lib.hid HLN.out
  clear HLN
  go_wp2_with fail
  refine (HL.out.pushOk (es := []) 4 1 rfl rfl (by decide) (HL.out.chAt 2 3 rfl rfl) rfl 4 (by decide) (by decide)).mono ?_
  rintro e w9 ⟨y4, rfl, h4, hL⟩
  have HLN := Lib.hid hL
  have H4 := Lib.hid h4
  simp only [List.set_cons_zero, List.set_cons_succ, List.nil_append] at HLN
  clear hL h4 HL
  have HL := Lib.hid HLN.out
  clear HLN
  go_wp2_with fail
  refine (sync14 _ _).mono ?_
  rintro e w10 ⟨rfl, ht⟩
  have HLN := Lib.hid (HL.out.touch ht)
  clear ht HL
  have HL := Lib.hid HLN.out
  clear HLN
  go_wp2_with fail
  refine (HL.out.pushOk (es := [y4]) 4 1 rfl rfl (by decide) (HL.out.chAt 2 3 rfl rfl) rfl 5 (by decide) (by simp)).mono ?_
  rintro e w11 ⟨y5, rfl, h5, hL⟩
  have HLN := Lib.hid hL
  have H5 := Lib.hid h5
  simp only [List.set_cons_zero, List.set_cons_succ, List.nil_append, List.cons_append] at HLN
  clear hL h5 HL
  have HL := Lib.hid HLN.out
  clear HLN
  go_wp2_with fail
  refine (Look_ch w11 c 0 M q1 q2 (HL.out.chAt 2 3 rfl rfl) 1 q1 [y4, y5] 1 rfl (HL.out.qAt 4 rfl) (fun e he => by
    have hs := HL.out.still 1 rfl
    simp at he
    rcases he with rfl | rfl
    · exact ⟨hs.1.2, nodes_of H4.out⟩
    · exact ⟨hs.2, nodes_of H5.out⟩)).mono ?_
  rintro e w12 ⟨x, cc, rfl, hR, _, _, ht⟩
  obtain ⟨rfl, hx5⟩ : cc = true ∧ x.sync = 5 := by
    rcases hR with ⟨h1, _, h2⟩ | ⟨_, h2, _⟩
    · refine ⟨h1, ?_⟩
      have h3 : x.plain = pOf 5 0 := by rw [← H5.out]; simpa using h2.symm
      exact congrArg PE.sync h3
    · exact absurd ⟨by decide, by simp⟩ h2
  have HLN := Lib.hid ((HL.out.touch ht).alloc 42 #[.int .i64 x.sync, .int .i64 x.thread, .int .i64 x.branch, .int .i64 x.flag, .int .i64 x.v.kind, .int .i64 x.v.num, .slice x.v.addr x.v.parts.length x.v.cap])
  have HX5 := Lib.hid hx5
  clear ht hR hx5 HL
  simp only [List.cons_append, List.nil_append] at HLN
  simp only [ent_eq]
  go_wp2_with fail
  refine wp_calls_name ?_
  intro w13 hw13
  have HL := Lib.hid (HLN.out.via hw13)
  obtain ⟨b15, hb15⟩ : ∃ b, w12.heap.size = b := ⟨_, rfl⟩
  rw [hb15] at HL ⊢
  clear hw13 hb15 HLN
  refine (Look_ch w13 c 0 M q1 q2 (HL.out.chAt 2 3 rfl rfl) 2 q2 [] 0 rfl (HL.out.qAt 5 rfl) (by simp)).mono ?_
  rintro e w14 ⟨x2, cc, rfl, hR, _, _, ht⟩
  obtain rfl : cc = false := by
    rcases hR with ⟨_, _, h2⟩ | ⟨h1, _⟩
    · simp at h2
    · exact h1
  have HLN := Lib.hid ((HL.out.touch ht).alloc 42 #[.int .i64 x2.sync, .int .i64 x2.thread, .int .i64 x2.branch, .int .i64 x2.flag, .int .i64 x2.v.kind, .int .i64 x2.v.num, .slice x2.v.addr x2.v.parts.length x2.v.cap])
  clear ht hR HL
  simp only [List.cons_append, List.nil_append] at HLN
  simp only [ent_eq]
  go_wp2_with fail
  refine wp_calls_name ?_
  intro w15 hw15
  have HL := Lib.hid (HLN.out.via hw15).sub1
  clear hw15 HLN
  refine (HL.out.chDrop 4 rfl (HL.out.chAt 2 3 rfl rfl) rfl (by simp) 0).mono ?_
  rintro e w16 ⟨y, b, rfl, hR, hL⟩
  obtain ⟨rfl, rfl⟩ : b = true ∧ y = y4 := by
    rcases hR with ⟨h1, _, h2⟩ | ⟨_, h2, _⟩
    · exact ⟨h1, by simpa using h2.symm⟩
    · exact absurd ⟨by decide, by simp⟩ h2
  have HLN := Lib.hid (hL.alloc 42 #[.int .i64 y.sync, .int .i64 y.thread, .int .i64 y.branch, .int .i64 y.flag, .int .i64 y.v.kind, .int .i64 y.v.num, .slice y.v.addr y.v.parts.length y.v.cap])
  clear hR hL HL
  simp only [List.set_cons_zero, List.set_cons_succ, List.cons_append, List.nil_append, if_true, List.eraseIdx_zero, List.tail_cons] at HLN
  simp only [ent_eq]
  go_wp2_with fail
  refine wp_calls_name ?_
  intro w17 hw17
  have HL := Lib.hid (HLN.out.via hw17)
  obtain ⟨b19, hb19⟩ : ∃ b, w16.heap.size = b := ⟨_, rfl⟩
  rw [hb19] at HL ⊢
  clear hw17 hb19 HLN
  refine (HL.out.chNew 0 rfl (fun W h => HS.out.touch h.tch) (by decide)).mono ?_
  rintro e w18 ⟨c3, M3, r1, r2, rfl, hL⟩
  have HLN : Hid (Led [] w w18 (([arena g (ar3 [0, 0, 0] [⟨3, 1, 0, 1, true⟩, ⟨3, 1, 1, 1, false⟩, ⟨3, 1, 1, 0, true⟩, ⟨3, 1, 0, 0, false⟩]), _, _, _, _, _, _, _, _, _, _, _]) ++ chanL c3 2 M3 r1 r2 [] [])) := hL
  clear hL HL
  have HL := Lib.hid (HLN.out.sub_end)
  clear HLN
  go_wp2_with fail
  refine (HL.out.chNew_full 0 rfl (by decide)).mono ?_
  rintro e w19 ⟨rfl, hL⟩
  have HLN := Lib.hid hL
  clear hL HL
  have HL := Lib.hid HLN.out
  clear HLN
  simp only [List.set_cons_zero] at HL
  go_wp2_with fail
  refine (num14 _ _).mono ?_
  rintro e wn ⟨rfl, rfl⟩
  go_wp2_with fail
  refine (num14 _ _).mono ?_
  rintro e wn ⟨rfl, rfl⟩
  go_wp2_with fail
  refine (num14 _ _).mono ?_
  rintro e wn ⟨rfl, rfl⟩
  obtain ⟨z0, z1, z2, z3, z4, z5, z6, _, hz, _, _⟩ := HL.out.c7 10 rfl
  obtain ⟨v0, v1, v2, v3, v4, v5, v6, _, hv, _, _⟩ := HL.out.c7 11 rfl
  rw [HX5.out] at z0
  rw [show y.sync = 4 from congrArg PE.sync H4.out] at v0
  go_wp2_with fail
  refine (Len_ch _ _ _ _ _ _ (HL.out.chAt 2 3 rfl rfl) 1 q1 [y5] rfl (HL.out.qAt 4 rfl)).mono ?_
  rintro e wn ⟨rfl, rfl⟩
  go_wp2_with fail
  refine (sync14 _ _).mono ?_
  rintro e w20 ⟨rfl, ht⟩
  have HLN := Lib.hid (HL.out.touch ht)
  clear ht HL z0 z1 z2 z3 z4 z5 z6 hz v0 v1 v2 v3 v4 v5 v6 hv
  have HL := Lib.hid HLN.out
  clear HLN
  go_wp2_with fail
  refine (Push_ch_no _ _ _ _ _ _ (HL.out.chAt 2 3 rfl rfl) 0 (ofE 1 0) rfl).mono ?_
  rintro e w21 ⟨rfl, ht⟩
  have HLN := Lib.hid (HL.out.touch ht)
  clear ht HL
  have HL := Lib.hid HLN.out
  clear HLN
  go_wp2_with fail
  refine (num14 _ _).mono ?_
  rintro e wn ⟨rfl, rfl⟩
  go_wp2_with fail
  refine (Other_c _ 1 (HS.out.touch HL.out.tch)).mono ?_
  rintro e wn ⟨rfl, rfl⟩
  rw [show otherOf 1 = 2 from rfl]
  go_wp2_with fail
  refine (num14 _ _).mono ?_
  rintro e wn ⟨rfl, rfl⟩
  go_wp2
  go_ret
  exact ⟨rfl, HL.out.tch⟩
end Go.Proofs.YtihmbgdkllmkaaaDoor

/-
  QueueSame (betrothallaw13/law.go): its walk: for any two entries it returns true, and nothing that was there has turned.
-/
namespace Go.Proofs.YtihmbgdkllmkaaaDoor
open Go.RowKit Go.Shelf
set_option maxRecDepth 100000
set_option linter.unusedVariables false
set_option linter.unusedSimpArgs false

/-- Two boxes of entries, and what is told of a third world. -/
theorem two_ents (x y : ME) (w w' : World) (ht : Touch [] ((w.alloc (.cells #[.int .i64 x.sync, .int .i64 x.thread, .int .i64 x.branch, .int .i64 x.flag, .int .i64 x.v.kind, .int .i64 x.v.num, .slice x.v.addr x.v.parts.length x.v.cap] 42)).alloc (.cells #[.int .i64 y.sync, .int .i64 y.thread, .int .i64 y.branch, .int .i64 y.flag, .int .i64 y.v.kind, .int .i64 y.v.num, .slice y.v.addr y.v.parts.length y.v.cap] 42)) w') :
    EntAt w' w.heap.size 0 x ∧ EntAt w' (w.heap.size + 1) 0 y ∧ w.heap.size < w'.heap.size ∧ w.heap.size + 1 < w'.heap.size := by
  have hL := ((Led.nil' w).al2 rfl).touch ht
  obtain ⟨c0, c1, c2, c3, c4, c5, c6, _, z, _⟩ := hL.c7 0 rfl
  obtain ⟨d0, d1, d2, d3, d4, d5, d6, _, z', _⟩ := hL.c7 1 rfl
  exact ⟨⟨c0, c1, c2, c3, c4, c5, c6⟩, ⟨d0, d1, d2, d3, d4, d5, d6⟩, z, z'⟩
theorem Size_small (t : MT) (w : World) (hin : t.In w) (hno : t.nodes ≤ 256) : Calls Tryd.prog 45 #[t.val] w fun e w' => e = .returned (.int .i64 (t.nodes : Int)) ∧ Touch [] w w' := by
  refine (Size_ref t w hin (by omega)).mono ?_
  rintro e w' ⟨rfl, ht⟩
  exact ⟨by rw [Nat.min_eq_left (by omega)], ht⟩
theorem Size_big (t : MT) (w : World) (hin : t.In w) (hno : t.nodes ≤ 1048576) (h : ¬ t.nodes ≤ 256) : Calls Tryd.prog 45 #[t.val] w fun e w' => e = .returned (.int .i64 257) ∧ Touch [] w w' := by
  refine (Size_ref t w hin hno).mono ?_
  rintro e w' ⟨rfl, ht⟩
  exact ⟨by rw [Nat.min_eq_right (by omega)]; rfl, ht⟩
theorem bool_eq {a b : Bool} {p q : Prop} (ha : a = true ↔ p) (hb : b = true ↔ q) (h : p ↔ q) : a = b := by
  rw [Bool.eq_iff_iff, ha, hb, h]
end Go.Proofs.YtihmbgdkllmkaaaDoor

/-
  few() of law 14 (betrothallaw14/law.go): calls, each with a side, a place and an entry.
-/
namespace Go.Proofs.YtihmbgdkllmkaaaDoor
open Go.RowKit Go.Shelf
set_option maxRecDepth 100000
set_option linter.unusedVariables false
set_option linter.unusedSimpArgs false

/-- A call of law 14: which, a side, a place, an entry. -/
structure C4 where
  what : Int
  side : Int
  i : Int
  e : ME
def C4.cells (x : C4) : List Value := .int .i64 x.what :: .int .i64 x.side :: .int .i64 x.i :: x.e.cells
/-- The cells of one call. -/
def C4At (w : World) (b o : Nat) (x : C4) : Prop := w.cell? ⟨b, o, none⟩ = some (.int .i64 x.what) ∧ w.cell? ⟨b, o + 1, none⟩ = some (.int .i64 x.side) ∧ w.cell? ⟨b, o + 2, none⟩ = some (.int .i64 x.i) ∧ EntAt w b (o + 3) x.e
theorem C4At.touch {w w' : World} {b o : Nat} {x : C4} (h : C4At w b o x) (ht : Touch [] w w') : C4At w' b o x := ⟨ht.cellOf h.1, ht.cellOf h.2.1, ht.cellOf h.2.2.1, h.2.2.2.touch ht⟩
def C4sAt (w : World) (a : Option Addr) (l : List C4) : Prop := ∀ i (hi : i < l.length), ∃ b o, a = some ⟨b, o, none⟩ ∧ b < w.heap.size ∧ C4At w b (o + i * 10) l[i]
theorem C4sAt.touch {w w' : World} {a : Option Addr} {l : List C4} (h : C4sAt w a l) (ht : Touch [] w w') : C4sAt w' a l := fun i hi => by
  obtain ⟨b, o, ha, hb, he⟩ := h i hi
  exact ⟨b, o, ha, Nat.lt_of_lt_of_le hb ht.size, he.touch ht⟩
/-- At most so many, of values of 20 parts. -/
def Few14 (l : List C4) (most : Int) : Prop := (l.length : Int) ≤ most ∧ ∀ x ∈ l, x.e.v.nodes ≤ 20
set_option maxHeartbeats 1000000 in
theorem few14 (w : World) (a : Option Addr) (cap : Nat) (l : List C4) (most : Int) (hl : l.length ≤ 9223372036854775807) (ha : C4sAt w a l) (hin : ∀ x ∈ l, x.e.v.In w ∧ x.e.v.nodes ≤ 1048576) :
    Calls Tryd.prog 17 #[.slice a l.length cap, .int .i64 most] w (Tells (Few14 l most) w) := by
  by_cases hm : most < (l.length : Int)
  · go_enter Tryd.func17, Tryd.ntmps17
    go_wp2
    go_ret
    exact Tells.no (fun h => by have := h.1; omega) (Touch.refl [] w)
  · have HA := Lib.hid ha
    have HI := Lib.hid hin
    have hm' : ¬ most < (l.length : Int) := hm
    clear ha hin hm
    go_enter Tryd.func17, Tryd.ntmps17
    go_wp2
    go_loopw [5] (fun i wr => ∃ k : Nat, i = .int .i64 (k : Int) ∧ k ≤ l.length ∧ Hid (∀ j (h : j < l.length), j < k → l[j].e.v.nodes ≤ 20) ∧ Hid (Touch [] w wr)) (fun i _ => l.length - (intOf i).toNat)
    case atStart => exact ⟨0, rfl, Nat.zero_le _, fun j _ h => by omega, Touch.refl [] w⟩
    case round =>
      obtain ⟨k, rfl, hk, HS, HT⟩ := hrel
      have hk0 : (0 : Int) ≤ (k : Int) := by omega
      by_cases hlt : k < l.length
      · have hlt' : (k : Int) < (l.length : Int) := by omega
        obtain ⟨b, o, rfl, hb, c0, cs, ci, c1, c2, c3, c4, c5, c6, c7⟩ := (HA.out.touch HT.out) k hlt
        obtain ⟨hi1, hi2⟩ := HI.out _ (List.getElem_mem hlt)
        have HSZ := Lib.hid (Size_ref l[k].e.v wr (hi1.touch0 HT.out) hi2)
        obtain ⟨y, hy⟩ : ∃ y, l[k] = y := ⟨_, rfl⟩
        rw [hy] at c0 cs ci c1 c2 c3 c4 c5 c6 c7 HSZ
        rw [val_eq] at HSZ
        have HY := Lib.hid hy
        have q5 : wr.cell? ⟨b, o + k * 10 + 3 + 4 + 1, none⟩ = some (.int .i64 y.e.v.num) := c6
        have q6 : wr.cell? ⟨b, o + k * 10 + 3 + 4 + 2, none⟩ = some (.slice y.e.v.addr y.e.v.parts.length y.e.v.cap) := c7
        clear hy hi1 hi2 c6 c7
        by_cases hbig : y.e.v.nodes ≤ 20
        · have hbg : decide ((20 : Int) < ((min y.e.v.nodes 257 : Nat) : Int)) = false := by simp; omega
          obtain ⟨sz, hsz⟩ : ∃ sz, min y.e.v.nodes 257 = sz := ⟨_, rfl⟩
          rw [hsz] at HSZ hbg
          have hs20 : ¬ (20 : Int) < (sz : Int) := by omega
          clear hsz
          go_wp2_with fail
          refine HSZ.out.mono ?_
          rintro e w2 ⟨rfl, ht⟩
          have HT2 := Lib.hid (HT.out.trans' ht)
          clear ht c0 cs ci c1 c2 c3 c4 c5 q5 q6
          go_wp2
          go_roundw
          case rel => exact ⟨k + 1, by go_num, hlt, fun j hj hjk => by
            by_cases hjk2 : j < k
            · exact HS.out j hj hjk2
            · obtain rfl : j = k := by omega
              rw [HY.out]; exact hbig, HT2⟩
          case measure => simp [intOf]; omega
        · obtain ⟨sz, hsz⟩ : ∃ sz, min y.e.v.nodes 257 = sz := ⟨_, rfl⟩
          have hs20 : (20 : Int) < (sz : Int) := by omega
          rw [hsz] at HSZ
          clear hsz
          go_wp2_with fail
          refine HSZ.out.mono ?_
          rintro e w2 ⟨rfl, ht⟩
          have HT2 := Lib.hid (HT.out.trans' ht)
          clear ht c0 cs ci c1 c2 c3 c4 c5 q5 q6
          go_wp2
          go_ret
          exact Tells.no (fun h => hbig (by rw [← HY.out]; exact h.2 _ (List.getElem_mem hlt))) HT2.out
      · have hlt' : ¬ (k : Int) < (l.length : Int) := by omega
        go_wp2
        go_ret
        exact Tells.yes ⟨by omega, fun x hx => by obtain ⟨i, hi, rfl⟩ := List.mem_iff_getElem.1 hx; exact HS.out i hi (by omega)⟩ HT.out
end Go.Proofs.YtihmbgdkllmkaaaDoor

/-
  over() of law 14 (betrothallaw14/law.go): a loop over All's iterator against a list of entries.
-/
namespace Go.Proofs.YtihmbgdkllmkaaaDoor
open Go.RowKit Go.Shelf
set_option maxRecDepth 100000
set_option linter.unusedVariables false
set_option linter.unusedSimpArgs false
attribute [local go_sem] Oper.semAt_some

set_option maxHeartbeats 4000000 in
theorem over14_in (n : Nat) (w : World) (bx : Nat) (ra : Option Addr) (rc : Nat) (ys ls : List ME) (a2 : Option Addr) (c2 many : Nat) (hA : AllAt w bx ra rc ys) (hyn : ∀ y ∈ ys, y.v.nodes ≤ 256) (hE : EntsAt w a2 ls) (hin : ∀ x ∈ ls, x.v.In w ∧ x.v.nodes ≤ 256)
    (hp : ys.map ME.plain = ls.map ME.plain) (hlen : ls.length ≤ 1048576) (hm : many ≤ 10000) :
    CallsIn Fence.wide n Tryd.prog 23 #[.func (.func 79) #[] #[.pointer (some ⟨bx, 0, none⟩)], .slice a2 ls.length c2, .int .i64 (many : Int)] w fun e w' => e = .returned (.bool true) ∧ Touch [] w w' := by
  have hyl : ys.length = ls.length := by have := congrArg List.length hp; simpa using this
  have HA := Lib.hid (fun W (hW : Touch [] w W) => hA.touch hW)
  have HE := Lib.hid (fun W (hW : Touch [] w W) => hE.touch hW)
  have HI := Lib.hid (fun x (hx : x ∈ ls) W (hW : Touch [] w W) => (hin x hx).1.touch0 hW)
  have HN := Lib.hid (fun x (hx : x ∈ ls) => (hin x hx).2)
  have HP := Lib.hid hp
  have HYL := Lib.hid hyl
  have HYN := Lib.hid hyn
  clear hA hE hin hp hyl hyn
  refine callsIn_of_wp_marks Tryd.func23 rfl trivial ?_ rfl
  simp only [Tryd.ntmps23, List.size_toArray, List.length_cons, List.length_nil, Nat.reduceAdd, Nat.reduceSub, Array.replicate_succ, Array.replicate_zero, List.push_toArray, List.append_toArray, List.nil_append, List.cons_append]
  have hnil := all_not_nil
  gi_wp2_with fail
  refine wpIn_name ?_
  intro w4 hw4
  have HL3 := Lib.hid (((Led.nil' w).al3 rfl).al1 hw4)
  simp only [List.nil_append, List.cons_append, World.size_alloc] at HL3
  obtain ⟨b7, hb7⟩ : ∃ b, w.heap.size + 1 + 1 + 1 = b := ⟨_, rfl⟩
  rw [hb7] at HL3 ⊢
  obtain ⟨b6, hb6⟩ : ∃ b, w.heap.size + 1 + 1 = b := ⟨_, rfl⟩
  rw [hb6] at HL3 ⊢
  obtain ⟨b5, hb5⟩ : ∃ b, w.heap.size + 1 = b := ⟨_, rfl⟩
  rw [hb5] at HL3 ⊢
  obtain ⟨b4, hb4⟩ : ∃ b, w.heap.size = b := ⟨_, rfl⟩
  rw [hb4] at HL3 ⊢
  clear hb7 hb6 hb5 hb4 hw4 hnil
  have HL5 : Hid (Led [] w w4 (overR a2 ls.length c2 many b4 b5 b6 b7 0)) := HL3.out.addFact (p := (0 = 0 ∨ 0 < many)) (.inl rfl)
  clear HL3
  refine range_allQ (bx := bx) (ra := ra) (rc := rc) (ys := ys) rfl rfl (by rw [HYL.out]; exact hlen) HYN.out (overR a2 ls.length c2 many b4 b5 b6 b7)
    (fun c lx => c = .exit 0 ∧ ∃ k, lx = (overR a2 ls.length c2 many b4 b5 b6 b7 k).set 4 (fact (k ≤ ls.length ∧ k = max 1 many))) (fun W hW => HA.out W hW) HL5.out ?hround ?hdone ?hstop
  case hround =>
    intro k x W o0 hk hxk h
    have hk' : k < ls.length := by rw [← HYL.out]; exact hk
    rw [HP.out, List.getElem?_map, List.getElem?_eq_getElem hk'] at hxk
    have HX : Hid (ls[k].plain = x.plain) := by unfold Hid; simpa using hxk
    obtain ⟨D, hD⟩ : ∃ D, w4.heap.size = D := ⟨_, rfl⟩
    rw [hD] at h ⊢
    have HK := Lib.hid h
    clear h hxk hD
    rw [ent_eq]
    gi_wp2
    refine ⟨_, HK.out.alloc _ _, fun W2 o h2 => ?_⟩
    obtain ⟨be, hbe⟩ : ∃ b, W.heap.size = b := ⟨_, rfl⟩
    rw [hbe] at h2 ⊢
    have HK2 := Lib.hid h2
    simp only [overR, marks, List.nil_append, List.cons_append] at HK2
    clear hbe h2 HK
    have HFa : Hid (k = 0 ∨ k < many) := HK2.out.fact 4 rfl
    have HVX : Hid (x.v.In W2) := HK2.out.valsIn 5 rfl _ (by simp)
    have HLK := Lib.hid (HI.out ls[k] (List.getElem_mem hk') W2 HK2.out.tch)
    have HLN := Lib.hid (HN.out ls[k] (List.getElem_mem hk'))
    obtain ⟨b2, o2, rfl, hbb2, hent⟩ := HE.out W2 HK2.out.tch k hk'
    generalize ls[k] = y at hent HX HLK HLN
    have HY1 := Lib.hid hent
    have HX1 : Hid (EntAt W2 be 0 x) := by obtain ⟨c0, c1, c2, c3, c4, c5, c6, _⟩ := HK2.out.c7 8 rfl; exact ⟨c0, c1, c2, c3, c4, c5, c6⟩
    obtain ⟨_, _, _, _, _, _, _, _, zx, _, _⟩ := HK2.out.c7 8 rfl
    obtain ⟨n0, fn, zn, _, _⟩ := HK2.out.c1 3 rfl
    obtain ⟨l0, _, zl, _, _⟩ := HK2.out.c1 0 rfl
    obtain ⟨m0, _, zm, _, _⟩ := HK2.out.c1 1 rfl
    have HN0 := Lib.hid n0
    have HL0 := Lib.hid l0
    have HSE := Lib.hid (fun W (hW : Touch [] W2 W) => SameEntry_ref x y W (HVX.out.touch0 hW) (HLK.out.touch0 hW) (by rw [plain_nodes_eq HX.out]; have := HLN.out; omega) (by have := HLN.out; omega))
    have HEQ : Hid (x.v.nodes ≤ 256 ∧ y.v.nodes ≤ 256 ∧ x.plain = y.plain) := ⟨by rw [plain_nodes_eq HX.out]; exact HLN.out, HLN.out, HX.out.symm⟩
    clear hent
    simp only [ent_eq] at HSE
    obtain ⟨x0, x1, x2, x3, x4, x5, x6⟩ := HX1.out
    obtain ⟨y0, y1, y2, y3, y4, y5, y6⟩ := HY1.out
    simp only [Nat.zero_add] at x1 x2 x3 x4 x5 x6
    have hg1 : ¬ (ls.length : Int) ≤ (k : Int) := by omega
    have hg2 : ¬ ls.length ≤ k := by omega
    have hg3 : (k : Int) < (ls.length : Int) := by omega
    have hg4 : decide ((ls.length : Int) ≤ (k : Int)) = false := by simp; omega
    have hk0 : (0 : Int) ≤ (k : Int) := by omega
    gi_wp2_with fail
    refine region_held_round (S := fun w' => w'.cell? ⟨b7, 0, none⟩ = some (.int .i64 (k : Int)) ∧ w'.cell? ⟨b4, 0, none⟩ = some (.slice (some ⟨b2, o2, none⟩) ls.length c2) ∧
      (w'.cell? ⟨be, 0, none⟩ = some (.int .i64 x.sync) ∧ w'.cell? ⟨be, 1, none⟩ = some (.int .i64 x.thread) ∧ w'.cell? ⟨be, 2, none⟩ = some (.int .i64 x.branch) ∧ w'.cell? ⟨be, 3, none⟩ = some (.int .i64 x.flag) ∧ w'.cell? ⟨be, 4, none⟩ = some (.int .i64 x.v.kind) ∧ w'.cell? ⟨be, 5, none⟩ = some (.int .i64 x.v.num) ∧ w'.cell? ⟨be, 6, none⟩ = some (.slice x.v.addr x.v.parts.length x.v.cap)) ∧
      (w'.cell? ⟨b2, o2 + k * 7, none⟩ = some (.int .i64 y.sync) ∧ w'.cell? ⟨b2, o2 + k * 7 + 1, none⟩ = some (.int .i64 y.thread) ∧ w'.cell? ⟨b2, o2 + k * 7 + 2, none⟩ = some (.int .i64 y.branch) ∧ w'.cell? ⟨b2, o2 + k * 7 + 3, none⟩ = some (.int .i64 y.flag) ∧ w'.cell? ⟨b2, o2 + k * 7 + 4, none⟩ = some (.int .i64 y.v.kind) ∧ w'.cell? ⟨b2, o2 + k * 7 + 5, none⟩ = some (.int .i64 y.v.num) ∧ w'.cell? ⟨b2, o2 + k * 7 + 6, none⟩ = some (.slice y.v.addr y.v.parts.length y.v.cap)))
      (by rintro ⟨_, _, h⟩; exact h) (by kernel_rfl) (by kernel_rfl) ?_ (fun hHeld => ?_)
    · (try dsimp only)
      go_keep
    refine wpAnyH_takeD (i := 0) (d := some 15) (v := ?_) rfl rfl (by kernel_rfl) (by kernel_rfl) (by kernel_rfl) (fun _ _ _ h => h) (Or.inl ⟨by rfl, ?_⟩) (by assumption) ?_
    rotate_left
    · intro w hSw
      (try dsimp only at hSw)
      first | (go_simp; done) | (go_simp; with_reducible rfl)
    (try simp only [Act.put, List.setIfInBounds_toArray, List.set_cons_zero, List.set_cons_succ])
    refine wpAnyH_takeD (i := 1) (d := some 16) (v := ?_) rfl rfl (by kernel_rfl) (by kernel_rfl) (by kernel_rfl) (fun _ _ _ h => h) (Or.inl ⟨by rfl, ?_⟩) (by assumption) ?_
    rotate_left
    · intro w hSw
      (try dsimp only at hSw)
      first | (go_simp; done) | (go_simp; with_reducible rfl)
    (try simp only [Act.put, List.setIfInBounds_toArray, List.set_cons_zero, List.set_cons_succ])
    refine wpAnyH_takeD (i := 2) (d := some 17) (v := ?_) rfl rfl (by kernel_rfl) (by kernel_rfl) (by kernel_rfl) (fun _ _ _ h => h) (Or.inl ⟨by rfl, ?_⟩) (by assumption) ?_
    rotate_left
    · intro w hSw
      (try dsimp only at hSw)
      first | (go_simp; done) | (go_simp; with_reducible rfl)
    (try simp only [Act.put, List.setIfInBounds_toArray, List.set_cons_zero, List.set_cons_succ])
    refine wpAnyH_takeD (i := 3) (d := some 18) (v := ?_) rfl rfl (by kernel_rfl) (by kernel_rfl) (by kernel_rfl) (fun _ _ _ h => h) (Or.inl ⟨by rfl, ?_⟩) (by assumption) ?_
    rotate_left
    · intro w hSw
      (try dsimp only at hSw)
      first | (go_simp; done) | (go_simp; with_reducible rfl)
    (try simp only [Act.put, List.setIfInBounds_toArray, List.set_cons_zero, List.set_cons_succ])
    refine wpAnyH_takeD (i := 4) (d := some 19) (v := ?_) rfl rfl (by kernel_rfl) (by kernel_rfl) (by kernel_rfl) (fun _ _ _ h => h) (Or.inl ⟨by rfl, ?_⟩) (by assumption) ?_
    rotate_left
    · intro w hSw
      (try dsimp only at hSw)
      first | (go_simp; done) | (go_simp; with_reducible rfl)
    (try simp only [Act.put, List.setIfInBounds_toArray, List.set_cons_zero, List.set_cons_succ])
    refine wpAnyH_takeD (i := 5) (d := some 20) (v := ?_) rfl rfl (by kernel_rfl) (by kernel_rfl) (by kernel_rfl) (fun _ _ _ h => h) (Or.inl ⟨by rfl, ?_⟩) (by assumption) ?_
    rotate_left
    · intro w hSw
      (try dsimp only at hSw)
      first | (go_simp; done) | (go_simp; with_reducible rfl)
    (try simp only [Act.put, List.setIfInBounds_toArray, List.set_cons_zero, List.set_cons_succ])
    refine wpAnyH_takeD (i := 6) (d := some 21) (v := ?_) rfl rfl (by kernel_rfl) (by kernel_rfl) (by kernel_rfl) (fun _ _ _ h => h) (Or.inl ⟨by rfl, ?_⟩) (by assumption) ?_
    rotate_left
    · intro w hSw
      (try dsimp only at hSw)
      first | (go_simp; done) | (go_simp; with_reducible rfl)
    (try simp only [Act.put, List.setIfInBounds_toArray, List.set_cons_zero, List.set_cons_succ])
    refine wpAnyH_takeD (i := 7) (d := some 22) (v := ?_) rfl rfl (by kernel_rfl) (by kernel_rfl) (by kernel_rfl) (fun _ _ _ h => h) (Or.inl ⟨by rfl, ?_⟩) (by assumption) ?_
    rotate_left
    · intro w hSw
      (try dsimp only at hSw)
      first | (go_simp; done) | (go_simp; with_reducible rfl)
    (try simp only [Act.put, List.setIfInBounds_toArray, List.set_cons_zero, List.set_cons_succ])
    refine wpAnyH_takeD (i := 8) (d := some 23) (v := ?_) rfl rfl (by kernel_rfl) (by kernel_rfl) (by kernel_rfl) (fun _ _ _ h => h) (Or.inl ⟨by rfl, ?_⟩) (by assumption) ?_
    rotate_left
    · intro w hSw
      (try dsimp only at hSw)
      first | (go_simp; done) | (go_simp; with_reducible rfl)
    (try simp only [Act.put, List.setIfInBounds_toArray, List.set_cons_zero, List.set_cons_succ])
    refine wpAnyH_takeD (i := 9) (d := some 24) (v := ?_) rfl rfl (by kernel_rfl) (by kernel_rfl) (by kernel_rfl) (fun _ _ _ h => h) (Or.inl ⟨by rfl, ?_⟩) (by assumption) ?_
    rotate_left
    · intro w hSw
      (try dsimp only at hSw)
      first | (go_simp; done) | (go_simp; with_reducible rfl)
    (try simp only [Act.put, List.setIfInBounds_toArray, List.set_cons_zero, List.set_cons_succ])
    refine wpAnyH_takeD (i := 10) (d := some 25) (v := ?_) rfl rfl (by kernel_rfl) (by kernel_rfl) (by kernel_rfl) (fun _ _ _ h => h) (Or.inl ⟨by rfl, ?_⟩) (by assumption) ?_
    rotate_left
    · intro w hSw
      (try dsimp only at hSw)
      first | (go_simp; done) | (go_simp; with_reducible rfl)
    (try simp only [Act.put, List.setIfInBounds_toArray, List.set_cons_zero, List.set_cons_succ])
    refine wpAnyH_takeD (i := 11) (d := some 26) (v := ?_) rfl rfl (by kernel_rfl) (by kernel_rfl) (by kernel_rfl) (fun _ _ _ h => h) (Or.inl ⟨by rfl, ?_⟩) (by assumption) ?_
    rotate_left
    · intro w hSw
      (try dsimp only at hSw)
      first | (go_simp; done) | (go_simp; with_reducible rfl)
    (try simp only [Act.put, List.setIfInBounds_toArray, List.set_cons_zero, List.set_cons_succ])
    refine wpAnyH_takeD (i := 12) (d := some 27) (v := ?_) rfl rfl (by kernel_rfl) (by kernel_rfl) (by kernel_rfl) (fun _ _ _ h => h) (Or.inl ⟨by rfl, ?_⟩) (by assumption) ?_
    rotate_left
    · intro w hSw
      (try dsimp only at hSw)
      first | (go_simp; done) | (go_simp; with_reducible rfl)
    (try simp only [Act.put, List.setIfInBounds_toArray, List.set_cons_zero, List.set_cons_succ])
    refine wpAnyH_takeD (i := 13) (d := some 28) (v := ?_) rfl rfl (by kernel_rfl) (by kernel_rfl) (by kernel_rfl) (fun _ _ _ h => h) (Or.inl ⟨by rfl, ?_⟩) (by assumption) ?_
    rotate_left
    · intro w hSw
      (try dsimp only at hSw)
      first | (go_simp; done) | (go_simp; with_reducible rfl)
    (try simp only [Act.put, List.setIfInBounds_toArray, List.set_cons_zero, List.set_cons_succ])
    refine wpAnyH_takeD (i := 14) (d := some 29) (v := ?_) rfl rfl (by kernel_rfl) (by kernel_rfl) (by kernel_rfl) (fun _ _ _ h => h) (Or.inl ⟨by rfl, ?_⟩) (by assumption) ?_
    rotate_left
    · intro w hSw
      (try dsimp only at hSw)
      first | (go_simp; done) | (go_simp; with_reducible rfl)
    (try simp only [Act.put, List.setIfInBounds_toArray, List.set_cons_zero, List.set_cons_succ])
    refine wpAnyH_ready (rs := [15]) (by kernel_rfl) (by simp) ?_
    refine AllReadyH.cons rfl (fun K hK => ?_) AllReadyH.nil
    go_simp
    refine (HSE.out _ (Touch.refl [] W2).drew).mono ?_
    rintro en wn ⟨cc, rfl, hcc, ht⟩
    obtain rfl : cc = true := hcc.2 HEQ.out
    have HT := Lib.hid ((Touch.refl [] W2).drew.trans' ht)
    clear ht hcc x0 x1 x2 x3 x4 x5 x6 y0 y1 y2 y3 y4 y5 y6 n0 l0 hHeld
    obtain ⟨x0, x1, x2, x3, x4, x5, x6⟩ := HX1.out.touch HT.out
    obtain ⟨y0, y1, y2, y3, y4, y5, y6⟩ := HY1.out.touch HT.out
    simp only [Nat.zero_add] at x1 x2 x3 x4 x5 x6
    have n0 := HT.out.cellOf HN0.out
    have l0 := HT.out.cellOf HL0.out
    go_simp
    refine hK.out _ _ ?_ (fun hHeld => ?_)
    · (try dsimp only)
      go_keep
    clear hK K
    (try simp only [Act.put, List.setIfInBounds_toArray, List.set_cons_zero, List.set_cons_succ])
    refine wpAnyH_takeD (i := 16) (d := some 31) (v := ?_) rfl rfl (by kernel_rfl) (by kernel_rfl) (by kernel_rfl) (fun _ _ _ h => h) (Or.inl ⟨by rfl, ?_⟩) (by assumption) ?_
    rotate_left
    · intro w hSw
      (try dsimp only at hSw)
      first | (go_simp; done) | (go_simp; with_reducible rfl)
    (try simp only [Act.put, List.setIfInBounds_toArray, List.set_cons_zero, List.set_cons_succ])
    refine wpAnyH_takeD (i := 17) (d := some 32) (v := ?_) rfl rfl (by kernel_rfl) (by kernel_rfl) (by kernel_rfl) (fun _ _ _ h => h) (Or.inl ⟨by rfl, ?_⟩) (by assumption) ?_
    rotate_left
    · intro w hSw
      (try dsimp only at hSw)
      first | (go_simp; done) | (go_simp; with_reducible rfl)
    (try simp only [Act.put, List.setIfInBounds_toArray, List.set_cons_zero, List.set_cons_succ])
    refine wpAnyH_done (by kernel_rfl) ?_ _
    have HK3 := Lib.hid (HK2.out.touch HT.out)
    clear x0 x1 x2 x3 x4 x5 x6 y0 y1 y2 y3 y4 y5 y6 n0 l0 hHeld fn m0 zx zn zl zm HK2 hbb2
    obtain ⟨n0, fn, zn, _, _⟩ := HK3.out.c1 3 rfl
    obtain ⟨m0, _, zm, _, _⟩ := HK3.out.c1 1 rfl
    have n5 := HK3.out.ne 1 3 rfl rfl (by decide)
    have n6 := Ne.symm n5
    by_cases hmn : (many : Int) ≤ (k : Int) + 1
    · gi_wp2_with fail
      have hs := (HK3.out.set 3 rfl 0 (.int .i64 ((k : Int) + 1))).setFact 4 rfl (q := (k + 1 ≤ ls.length ∧ k + 1 = max 1 many)) ⟨by omega, by have := HFa.out; omega⟩
      exact ⟨_, [], ⟨rfl, k + 1, rfl⟩, hs.sel [0, 1, 2, 3, 4, 6, 7] rfl (by decide)⟩
    · gi_wp2_with fail
      have hs := (HK3.out.set 3 rfl 0 (.int .i64 ((k : Int) + 1))).setFact 4 rfl (q := (k + 1 = 0 ∨ k + 1 < many)) (.inr (by omega))
      exact ⟨[], hs.sel [0, 1, 2, 3, 4, 6, 7] rfl (by decide)⟩
  case hdone =>
    intro W h
    obtain ⟨D, hD⟩ : ∃ D, w4.heap.size = D := ⟨_, rfl⟩
    rw [hD] at h ⊢
    rw [HYL.out] at h
    have HK := Lib.hid h
    simp only [overR, marks1, List.nil_append, List.cons_append] at HK
    clear h hD
    obtain ⟨n0, fn, zn, _, _⟩ := HK.out.c1 3 rfl
    obtain ⟨l0, _, zl, _, _⟩ := HK.out.c1 0 rfl
    obtain ⟨m0, _, zm, _, _⟩ := HK.out.c1 1 rfl
    obtain ⟨q0, qf, zq, _, _⟩ := HK.out.c1 2 rfl
    have HFa : Hid (ls.length = 0 ∨ ls.length < many) := HK.out.fact 4 rfl
    gi_wp2
    all_goals have hfa := HFa.out
    all_goals exact led_ret1 Tryd.results23 rfl HK.out 2 rfl (by first | rfl | (simp only [beq_iff_eq]; omega)) 5 rfl (fun W' h => ⟨rfl, h.tch⟩)
  case hstop =>
    rintro c W lx ⟨rfl, k, rfl⟩ h
    obtain ⟨D, hD⟩ : ∃ D, w4.heap.size = D := ⟨_, rfl⟩
    rw [hD] at h ⊢
    have HK := Lib.hid h
    simp only [overR, marks1, List.nil_append, List.cons_append, List.set_cons_succ, List.set_cons_zero] at HK
    clear h hD
    obtain ⟨n0, fn, zn, _, _⟩ := HK.out.c1 3 rfl
    obtain ⟨l0, _, zl, _, _⟩ := HK.out.c1 0 rfl
    obtain ⟨m0, _, zm, _, _⟩ := HK.out.c1 1 rfl
    obtain ⟨q0, qf, zq, _, _⟩ := HK.out.c1 2 rfl
    have HFa : Hid (k ≤ ls.length ∧ k = max 1 many) := HK.out.fact 4 rfl
    gi_wp2
    all_goals obtain ⟨hfa, hfb⟩ := HFa.out
    all_goals exact led_ret1 Tryd.results23 rfl HK.out 2 rfl (by first | rfl | (simp only [beq_iff_eq]; omega)) 5 rfl (fun W' h => ⟨rfl, h.tch⟩)
theorem over14 (w : World) (bx : Nat) (ra : Option Addr) (rc : Nat) (ys ls : List ME) (a2 : Option Addr) (c2 many : Nat) (hA : AllAt w bx ra rc ys) (hyn : ∀ y ∈ ys, y.v.nodes ≤ 256) (hE : EntsAt w a2 ls) (hin : ∀ x ∈ ls, x.v.In w ∧ x.v.nodes ≤ 256)
    (hp : ys.map ME.plain = ls.map ME.plain) (hlen : ls.length ≤ 1048576) (hm : many ≤ 10000) :
    Calls Tryd.prog 23 #[.func (.func 79) #[] #[.pointer (some ⟨bx, 0, none⟩)], .slice a2 ls.length c2, .int .i64 (many : Int)] w fun e w' => e = .returned (.bool true) ∧ Touch [] w w' :=
  (callsIn_wide (n := 0)).1 (over14_in 0 w bx ra rc ys ls a2 c2 many hA hyn hE hin hp hlen hm)
end Go.Proofs.YtihmbgdkllmkaaaDoor

/-
  ChannelNone (betrothallaw14/law.go): its walk: for any call it returns true, and nothing that was there has turned.
-/
namespace Go.Proofs.YtihmbgdkllmkaaaDoor
open Go.RowKit Go.Shelf
set_option maxRecDepth 100000
set_option linter.unusedVariables false
set_option linter.unusedSimpArgs false

theorem build_chan0 (w : World) : (Instr.build 75 #[]).run Tryd.prog w = .ok (.agg #[.int .i64 0, .map none]) w := run_build w 75 _ _ (by kernel_rfl)
def C4.val (x : C4) : Value := .agg #[.int .i64 x.what, .int .i64 x.side, .int .i64 x.i, .int .i64 x.e.sync, .int .i64 x.e.thread, .int .i64 x.e.branch, .int .i64 x.e.flag, .int .i64 x.e.v.kind, .int .i64 x.e.v.num, .slice x.e.v.addr x.e.v.parts.length x.e.v.cap]
theorem C4_blk {w : World} {b : Nat} {t : TypeId} {x : C4} (h : Blk w b t #[.int .i64 x.what, .int .i64 x.side, .int .i64 x.i, .int .i64 x.e.sync, .int .i64 x.e.thread, .int .i64 x.e.branch, .int .i64 x.e.flag, .int .i64 x.e.v.kind, .int .i64 x.e.v.num, .slice x.e.v.addr x.e.v.parts.length x.e.v.cap]) : C4At w b 0 x :=
  ⟨h.cell 0, h.cell 1, h.cell 2, h.cell 3, h.cell 4, h.cell 5, h.cell 6, h.cell 7, h.cell 8, h.cell 9⟩
theorem C4s_one {w : World} {b : Nat} {x : C4} (h : C4At w b 0 x) (hb : b < w.heap.size) : C4sAt w (some ⟨b, 0, none⟩) [x] := by
  intro i hi
  have : i = 0 := by simp at hi; omega
  subst this
  exact ⟨b, 0, rfl, hb, h⟩
set_option maxHeartbeats 4000000 in
theorem channelNone_any (x : C4) (zero : Bool) (w : World) (hx : x.e.v.In w) (hnx : x.e.v.nodes ≤ 1048576) (hS : SidesAt w) :
    Calls Tryd.prog 5 #[x.val, .bool zero] w fun e w' => e = .returned (.bool true) ∧ Below w.heap.size w w' := by
  have hb0 := build_chan0
  have z1 : w.heap.size < w.heap.size + 1 := by omega
  have hL0 := (Led.nil' w).al2 (c1 := #[.int .i64 x.what, .int .i64 x.side, .int .i64 x.i, .int .i64 x.e.sync, .int .i64 x.e.thread, .int .i64 x.e.branch, .int .i64 x.e.flag, .int .i64 x.e.v.kind, .int .i64 x.e.v.num, .slice x.e.v.addr x.e.v.parts.length x.e.v.cap]) (t1 := 68) (c2 := #[.int .i64 x.what, .int .i64 x.side, .int .i64 x.i, .int .i64 x.e.sync, .int .i64 x.e.thread, .int .i64 x.e.branch, .int .i64 x.e.flag, .int .i64 x.e.v.kind, .int .i64 x.e.v.num, .slice x.e.v.addr x.e.v.parts.length x.e.v.cap]) (t2 := 68) rfl
  simp only [List.nil_append] at hL0
  have HF := Lib.hid (few14 _ _ 1 [x] 1 (by simp) (C4s_one (C4_blk (hL0.box 1 rfl)) (hL0.box 1 rfl).lt) (fun y hy => by simp at hy; subst hy; exact ⟨hx.touch0 hL0.tch, hnx⟩))
  have HL0 := Lib.hid hL0
  have HSW := Lib.hid hS
  clear hL0 hS
  unfold C4.val
  go_enter Tryd.func5, Tryd.ntmps5
  go_wp2_with fail
  refine HF.out.mono ?_
  rintro e w0 ⟨cc, rfl, hcc, ht⟩
  have HL1 := Lib.hid (HL0.out.touch ht)
  clear ht hcc HF HL0
  obtain ⟨be, hbe⟩ : ∃ b, w.heap.size = b := ⟨_, rfl⟩
  rw [hbe] at HL1 ⊢
  have HBE := Lib.hid hbe
  clear hbe z1
  cases cc
  · go_wp2_with fail
    refine (works14 _ (HSW.out.touch HL1.out.tch)).mono ?_
    rintro e w9 ⟨rfl, ht⟩
    have HT := Lib.hid (HL1.out.tch.trans' ht)
    clear ht
    go_wp2
    go_ret
    exact ⟨rfl, HT.out.below⟩
  · cases zero
    · have hxe : C4At w0 be 0 x := C4_blk (HL1.out.box 0 rfl)
      have hnc : NoCh w0 none := .inl rfl
      have htz := HL1.out.tch
      have hsz := HSW.out.touch HL1.out.tch
      clear HL1
      generalize w0 = wz at hxe hnc htz hsz ⊢
      have HNC := Lib.hid (fun W (hW : Touch [] wz W) => hnc.touch hW)
      have HXE := Lib.hid hxe
      have HTZ := Lib.hid htz
      have HS := Lib.hid (fun W (hW : Touch [] wz W) => hsz.touch hW)
      clear hnc hxe htz hsz
      go_wp2_with fail
      refine ((Led.nil' wz).arNew 3 (by omega) (by omega)).mono ?_
      rintro e w1 ⟨rfl, hh⟩
      have HL1 := Lib.hid hh
      simp only [List.nil_append] at HL1
      obtain ⟨g, hg⟩ : ∃ b, wz.heap.size = b := ⟨_, rfl⟩
      rw [hg] at HL1 ⊢
      clear hh hg
      go_wp2_with fail
      refine (HL1.out.chNew 0 rfl (fun W h => HS.out W h.tch) (by decide)).mono ?_
      rintro e w2 ⟨d, M, q1, q2, rfl, hL⟩
      have HL : Hid (Led [] wz w2 ([arena g (ar3 [0] [])] ++ chanL d 0 M q1 q2 [] [])) := hL
      clear hL HL1
      simp only [chanL, List.cons_append, List.nil_append] at HL
      go_wp2_with fail
      refine (chNew_nil _).mono ?_
      rintro e w3 ⟨rfl, ht⟩
      have HLN := Lib.hid (HL.out.touch ht)
      clear ht HL
      have HL := Lib.hid HLN.out
      clear HLN
      go_wp2_with fail
      refine (chLock_n _ _ (HNC.out _ HL.out.tch) _).mono ?_
      rintro e wn ⟨rfl, rfl⟩
      go_wp2_with fail
      refine (Lock_ch _ _ _ _ _ _ (HL.out.chAt 1 2 rfl rfl) none (fun w' => Touch [] w3 w') false 1 (fun W hW => (Try_none W none (.inl rfl) _).mono (fun e w' ⟨he, ht⟩ => ⟨he, hW.trans' ht⟩))).mono ?_
      rintro e w4 ⟨rfl, ht⟩
      have HLN := Lib.hid (HL.out.touch ht)
      clear ht HL
      have HL := Lib.hid HLN.out
      clear HLN
      obtain ⟨x0, xs, xi, x1, x2, x3, x4, x5, x6, x7⟩ := HXE.out.touch HL.out.tch
      simp only [Nat.zero_add, Nat.reduceAdd] at xs xi x1 x2 x3 x4 x5 x6 x7
      go_wp2_with fail
      refine (chLook_n _ _ (HNC.out _ HL.out.tch) x.side x.i).mono ?_
      rintro e w5 ⟨rfl, ht⟩
      have HLN := Lib.hid (HL.out.touch ht)
      clear ht HL
      have HL := Lib.hid HLN.out
      clear HLN
      clear x0 xs xi x1 x2 x3 x4 x5 x6 x7
      rw [zero_valW]
      go_upto_region 12 with fail
      refine wp_name ?_
      intro v5 hv
      have HLN := Lib.hid (HL.out.al1 hv).sub_end
      clear hv HL
      have HL := Lib.hid HLN.out
      clear HLN
      obtain ⟨x0, xs, xi, x1, x2, x3, x4, x5, x6, x7⟩ := HXE.out.touch HL.out.tch
      simp only [Nat.zero_add, Nat.reduceAdd] at xs xi x1 x2 x3 x4 x5 x6 x7
      go_wp2_with fail
      refine (chDrop_n _ _ (HNC.out _ HL.out.tch) x.side x.i).mono ?_
      rintro e w6 ⟨rfl, ht⟩
      have HLN := Lib.hid (HL.out.touch ht)
      clear ht HL
      have HL := Lib.hid HLN.out
      clear HLN
      clear x0 xs xi x1 x2 x3 x4 x5 x6 x7
      rw [zero_valW]
      go_upto_region 13 with fail
      refine wp_name ?_
      intro v6 hv
      have HLN := Lib.hid (HL.out.al1 hv).sub_end
      clear hv HL
      have HL := Lib.hid HLN.out
      clear HLN
      go_wp2_with fail
      refine (num14 _ _).mono ?_
      rintro e wn ⟨rfl, rfl⟩
      go_wp2_with fail
      refine (num14 _ _).mono ?_
      rintro e wn ⟨rfl, rfl⟩
      go_wp2_with fail
      refine (num14 _ _).mono ?_
      rintro e wn ⟨rfl, rfl⟩
      go_wp2_with fail
      refine (num14 _ _).mono ?_
      rintro e wn ⟨rfl, rfl⟩
      go_wp2_with fail
      refine (num14 _ _).mono ?_
      rintro e wn ⟨rfl, rfl⟩
      go_wp2_with fail
      refine (chUnlock_n _ _ (HNC.out _ HL.out.tch) _).mono ?_
      rintro e wn ⟨rfl, rfl⟩
      go_wp2_with fail
      refine (num14 _ _).mono ?_
      rintro e wn ⟨rfl, rfl⟩
      go_wp2_with fail
      refine (Unlock_ch _ _ _ _ _ _ (HL.out.chAt 1 2 rfl rfl) none (fun w' => Touch [] v6 w') 1 (fun W hW => (Free_none W none (.inl rfl) _).mono (fun e w' ⟨he, ht⟩ => ⟨he, hW.trans' ht⟩))).mono ?_
      rintro e w7 ⟨rfl, ht⟩
      have HLN := Lib.hid (HL.out.touch ht)
      clear ht HL
      have HL := Lib.hid HLN.out
      clear HLN
      go_wp2_with fail
      refine (num14 _ _).mono ?_
      rintro e wn ⟨rfl, rfl⟩
      obtain ⟨x0, xs, xi, x1, x2, x3, x4, x5, x6, x7⟩ := HXE.out.touch HL.out.tch
      simp only [Nat.zero_add, Nat.reduceAdd] at xs xi x1 x2 x3 x4 x5 x6 x7
      have HPN := Lib.hid (chPush_n _ _ (HNC.out _ HL.out.tch) x.side x.e)
      rw [ent_eq] at HPN
      go_wp2_with fail
      refine HPN.out.mono ?_
      rintro e w8 ⟨rfl, ht⟩
      have HLN := Lib.hid (HL.out.touch ht)
      clear ht HL HPN
      clear x0 xs xi x1 x2 x3 x4 x5 x6 x7
      have HL := Lib.hid HLN.out
      clear HLN
      go_wp2_with fail
      refine (num14 _ _).mono ?_
      rintro e wn ⟨rfl, rfl⟩
      obtain ⟨x0, xs, xi, x1, x2, x3, x4, x5, x6, x7⟩ := HXE.out.touch HL.out.tch
      simp only [Nat.zero_add, Nat.reduceAdd] at xs xi x1 x2 x3 x4 x5 x6 x7
      go_wp2_with fail
      refine (chLen_n _ _ (HNC.out _ HL.out.tch) x.side).mono ?_
      rintro e wn ⟨rfl, rfl⟩
      go_wp2_with fail
      refine (chAll_n _ _ (HNC.out _ HL.out.tch) x.side).mono ?_
      rintro e w9 ⟨bx, ra, rc, ys, rfl, hpy, hL⟩
      obtain rfl : ys = [] := by simpa using hpy
      have HLN := Lib.hid (HL.out.join hL)
      clear hpy hL HL
      clear x0 xs xi x1 x2 x3 x4 x5 x6 x7
      have HL := Lib.hid HLN.out
      clear HLN
      simp only [List.cons_append, List.nil_append] at HL
      go_wp2_with fail
      refine (over14 _ bx ra rc [] [] none 0 9 (HL.out.allAt 5 rfl) (by simp) (fun i hi => by simp at hi) (by simp) rfl (by simp) (by omega)).mono ?_
      rintro e w10 ⟨rfl, ht⟩
      have HLN := Lib.hid (HL.out.touch ht)
      clear ht HL
      have HL := Lib.hid HLN.out
      clear HLN
      go_wp2_with fail
      refine (chCell_n _ _ (HNC.out _ HL.out.tch)).mono ?_
      rintro e wn ⟨rfl, rfl⟩
      go_wp2_with fail
      refine (chCopy_n _ _ (HNC.out _ HL.out.tch)).mono ?_
      rintro e wn ⟨rfl, rfl⟩
      go_wp2_with fail
      refine (chSame_nil _ _ (HNC.out _ HL.out.tch)).mono ?_
      rintro e w11 ⟨rfl, ht⟩
      have HLN := Lib.hid (HL.out.touch ht)
      clear ht HL
      have HL := Lib.hid HLN.out
      clear HLN
      go_wp2_with fail
      refine (chSame_left _ _ (HNC.out _ HL.out.tch) _ _ _ _ _ (HL.out.chAt 1 2 rfl rfl)).mono ?_
      rintro e w12 ⟨rfl, ht⟩
      have HLN := Lib.hid (HL.out.touch ht)
      clear ht HL
      have HL := Lib.hid HLN.out
      clear HLN
      go_wp2_with fail
      refine (works14 _ (HS.out _ HL.out.tch)).mono ?_
      rintro e w13 ⟨rfl, ht⟩
      have HLN := Lib.hid (HL.out.touch ht)
      clear ht HL
      have HL := Lib.hid HLN.out
      clear HLN
      go_wp2
      go_ret
      exact ⟨rfl, (HTZ.out.trans' HL.out.tch).below⟩
    · go_upto_region 6 with fail
      refine wp_name ?_
      intro wz hwz
      have HLZ := Lib.hid (HL1.out.al1 hwz)
      simp only [List.nil_append, List.cons_append] at HLZ
      have hxe : C4At wz be 0 x := C4_blk (HLZ.out.box 0 rfl)
      have hnc : NoCh wz (some ⟨w0.heap.size, 0, none⟩) := .inr ⟨_, rfl, (HLZ.out.box 2 rfl).cell 1⟩
      have htz := HLZ.out.tch
      have hsz := HSW.out.touch HLZ.out.tch
      clear HL1 HLZ hwz
      have HNC := Lib.hid (fun W (hW : Touch [] wz W) => hnc.touch hW)
      have HXE := Lib.hid hxe
      have HTZ := Lib.hid htz
      have HS := Lib.hid (fun W (hW : Touch [] wz W) => hsz.touch hW)
      clear hnc hxe htz hsz
      go_wp2_with fail
      refine ((Led.nil' wz).arNew 3 (by omega) (by omega)).mono ?_
      rintro e w1 ⟨rfl, hh⟩
      have HL1 := Lib.hid hh
      simp only [List.nil_append] at HL1
      obtain ⟨g, hg⟩ : ∃ b, wz.heap.size = b := ⟨_, rfl⟩
      rw [hg] at HL1 ⊢
      clear hh hg
      go_wp2_with fail
      refine (HL1.out.chNew 0 rfl (fun W h => HS.out W h.tch) (by decide)).mono ?_
      rintro e w2 ⟨d, M, q1, q2, rfl, hL⟩
      have HL : Hid (Led [] wz w2 ([arena g (ar3 [0] [])] ++ chanL d 0 M q1 q2 [] [])) := hL
      clear hL HL1
      simp only [chanL, List.cons_append, List.nil_append] at HL
      go_wp2_with fail
      refine (chNew_nil _).mono ?_
      rintro e w3 ⟨rfl, ht⟩
      have HLN := Lib.hid (HL.out.touch ht)
      clear ht HL
      have HL := Lib.hid HLN.out
      clear HLN
      go_wp2_with fail
      refine (chLock_n _ _ (HNC.out _ HL.out.tch) _).mono ?_
      rintro e wn ⟨rfl, rfl⟩
      go_wp2_with fail
      refine (Lock_ch _ _ _ _ _ _ (HL.out.chAt 1 2 rfl rfl) none (fun w' => Touch [] w3 w') false 1 (fun W hW => (Try_none W none (.inl rfl) _).mono (fun e w' ⟨he, ht⟩ => ⟨he, hW.trans' ht⟩))).mono ?_
      rintro e w4 ⟨rfl, ht⟩
      have HLN := Lib.hid (HL.out.touch ht)
      clear ht HL
      have HL := Lib.hid HLN.out
      clear HLN
      obtain ⟨x0, xs, xi, x1, x2, x3, x4, x5, x6, x7⟩ := HXE.out.touch HL.out.tch
      simp only [Nat.zero_add, Nat.reduceAdd] at xs xi x1 x2 x3 x4 x5 x6 x7
      go_wp2_with fail
      refine (chLook_n _ _ (HNC.out _ HL.out.tch) x.side x.i).mono ?_
      rintro e w5 ⟨rfl, ht⟩
      have HLN := Lib.hid (HL.out.touch ht)
      clear ht HL
      have HL := Lib.hid HLN.out
      clear HLN
      clear x0 xs xi x1 x2 x3 x4 x5 x6 x7
      rw [zero_valW]
      go_upto_region 12 with fail
      refine wp_name ?_
      intro v5 hv
      have HLN := Lib.hid (HL.out.al1 hv).sub_end
      clear hv HL
      have HL := Lib.hid HLN.out
      clear HLN
      obtain ⟨x0, xs, xi, x1, x2, x3, x4, x5, x6, x7⟩ := HXE.out.touch HL.out.tch
      simp only [Nat.zero_add, Nat.reduceAdd] at xs xi x1 x2 x3 x4 x5 x6 x7
      go_wp2_with fail
      refine (chDrop_n _ _ (HNC.out _ HL.out.tch) x.side x.i).mono ?_
      rintro e w6 ⟨rfl, ht⟩
      have HLN := Lib.hid (HL.out.touch ht)
      clear ht HL
      have HL := Lib.hid HLN.out
      clear HLN
      clear x0 xs xi x1 x2 x3 x4 x5 x6 x7
      rw [zero_valW]
      go_upto_region 13 with fail
      refine wp_name ?_
      intro v6 hv
      have HLN := Lib.hid (HL.out.al1 hv).sub_end
      clear hv HL
      have HL := Lib.hid HLN.out
      clear HLN
      go_wp2_with fail
      refine (num14 _ _).mono ?_
      rintro e wn ⟨rfl, rfl⟩
      go_wp2_with fail
      refine (num14 _ _).mono ?_
      rintro e wn ⟨rfl, rfl⟩
      go_wp2_with fail
      refine (num14 _ _).mono ?_
      rintro e wn ⟨rfl, rfl⟩
      go_wp2_with fail
      refine (num14 _ _).mono ?_
      rintro e wn ⟨rfl, rfl⟩
      go_wp2_with fail
      refine (num14 _ _).mono ?_
      rintro e wn ⟨rfl, rfl⟩
      go_wp2_with fail
      refine (chUnlock_n _ _ (HNC.out _ HL.out.tch) _).mono ?_
      rintro e wn ⟨rfl, rfl⟩
      go_wp2_with fail
      refine (num14 _ _).mono ?_
      rintro e wn ⟨rfl, rfl⟩
      go_wp2_with fail
      refine (Unlock_ch _ _ _ _ _ _ (HL.out.chAt 1 2 rfl rfl) none (fun w' => Touch [] v6 w') 1 (fun W hW => (Free_none W none (.inl rfl) _).mono (fun e w' ⟨he, ht⟩ => ⟨he, hW.trans' ht⟩))).mono ?_
      rintro e w7 ⟨rfl, ht⟩
      have HLN := Lib.hid (HL.out.touch ht)
      clear ht HL
      have HL := Lib.hid HLN.out
      clear HLN
      go_wp2_with fail
      refine (num14 _ _).mono ?_
      rintro e wn ⟨rfl, rfl⟩
      obtain ⟨x0, xs, xi, x1, x2, x3, x4, x5, x6, x7⟩ := HXE.out.touch HL.out.tch
      simp only [Nat.zero_add, Nat.reduceAdd] at xs xi x1 x2 x3 x4 x5 x6 x7
      have HPN := Lib.hid (chPush_n _ _ (HNC.out _ HL.out.tch) x.side x.e)
      rw [ent_eq] at HPN
      go_wp2_with fail
      refine HPN.out.mono ?_
      rintro e w8 ⟨rfl, ht⟩
      have HLN := Lib.hid (HL.out.touch ht)
      clear ht HL HPN
      clear x0 xs xi x1 x2 x3 x4 x5 x6 x7
      have HL := Lib.hid HLN.out
      clear HLN
      go_wp2_with fail
      refine (num14 _ _).mono ?_
      rintro e wn ⟨rfl, rfl⟩
      obtain ⟨x0, xs, xi, x1, x2, x3, x4, x5, x6, x7⟩ := HXE.out.touch HL.out.tch
      simp only [Nat.zero_add, Nat.reduceAdd] at xs xi x1 x2 x3 x4 x5 x6 x7
      go_wp2_with fail
      refine (chLen_n _ _ (HNC.out _ HL.out.tch) x.side).mono ?_
      rintro e wn ⟨rfl, rfl⟩
      go_wp2_with fail
      refine (chAll_n _ _ (HNC.out _ HL.out.tch) x.side).mono ?_
      rintro e w9 ⟨bx, ra, rc, ys, rfl, hpy, hL⟩
      obtain rfl : ys = [] := by simpa using hpy
      have HLN := Lib.hid (HL.out.join hL)
      clear hpy hL HL
      clear x0 xs xi x1 x2 x3 x4 x5 x6 x7
      have HL := Lib.hid HLN.out
      clear HLN
      simp only [List.cons_append, List.nil_append] at HL
      go_wp2_with fail
      refine (over14 _ bx ra rc [] [] none 0 9 (HL.out.allAt 5 rfl) (by simp) (fun i hi => by simp at hi) (by simp) rfl (by simp) (by omega)).mono ?_
      rintro e w10 ⟨rfl, ht⟩
      have HLN := Lib.hid (HL.out.touch ht)
      clear ht HL
      have HL := Lib.hid HLN.out
      clear HLN
      go_wp2_with fail
      refine (chCell_n _ _ (HNC.out _ HL.out.tch)).mono ?_
      rintro e wn ⟨rfl, rfl⟩
      go_wp2_with fail
      refine (chCopy_n _ _ (HNC.out _ HL.out.tch)).mono ?_
      rintro e wn ⟨rfl, rfl⟩
      go_wp2_with fail
      refine (chSame_nil _ _ (HNC.out _ HL.out.tch)).mono ?_
      rintro e w11 ⟨rfl, ht⟩
      have HLN := Lib.hid (HL.out.touch ht)
      clear ht HL
      have HL := Lib.hid HLN.out
      clear HLN
      go_wp2_with fail
      refine (chSame_left _ _ (HNC.out _ HL.out.tch) _ _ _ _ _ (HL.out.chAt 1 2 rfl rfl)).mono ?_
      rintro e w12 ⟨rfl, ht⟩
      have HLN := Lib.hid (HL.out.touch ht)
      clear ht HL
      have HL := Lib.hid HLN.out
      clear HLN
      go_wp2_with fail
      refine (works14 _ (HS.out _ HL.out.tch)).mono ?_
      rintro e w13 ⟨rfl, ht⟩
      have HLN := Lib.hid (HL.out.touch ht)
      clear ht HL
      have HL := Lib.hid HLN.out
      clear HLN
      go_wp2
      go_ret
      exact ⟨rfl, (HTZ.out.trans' HL.out.tch).below⟩
end Go.Proofs.YtihmbgdkllmkaaaDoor

/-
  Arguments that are values (trees) or entries, opened: MT with In, its parts no more than the bulk of what was read.
-/
namespace Go.Proofs.YtihmbgdkllmkaaaDoor
open Go.ChangeShapes Go.WideShapes Go.Deep Go.RowKit
set_option linter.unusedVariables false
set_option maxRecDepth 100000

theorem list_of_forall {α : Type} {p : Nat → α → Prop} : ∀ (n : Nat), (∀ i, i < n → ∃ x, p i x) → ∃ l : List α, l.length = n ∧ ∀ i (hi : i < l.length), p i l[i] := by
  intro n
  induction n with
  | zero => intro _; exact ⟨[], rfl, fun i hi => by simp at hi⟩
  | succ n ih =>
    intro h
    obtain ⟨l, hl, hp⟩ := ih (fun i hi => h i (by omega))
    obtain ⟨x, hx⟩ := h n (by omega)
    refine ⟨l ++ [x], by simp [hl], fun i hi => ?_⟩
    by_cases hin : i < l.length
    · rw [List.getElem_append_left hin]; exact hp i hin
    · have : i = n := by simp at hi; omega
      subst this
      rw [List.getElem_append_right (by omega)]
      simpa using hx
theorem add_add' (a : Addr) (i j : Nat) : (a.add i).add j = a.add (i + j) := by
  unfold Addr.add
  by_cases hi : i = 0 <;> by_cases hj : j = 0 <;> simp [hi, hj, Nat.add_assoc]
theorem list3 {α : Type} {l : List α} (h : l.length = 3) : ∃ a b c, l = [a, b, c] := by
  match l, h with
  | [a, b, c], _ => exact ⟨a, b, c, rfl⟩
theorem nodesAll_le {H : Type} (l : List MT) (ds : List (DataW H)) (hl : l.length = ds.length) (h : ∀ i (hi : i < l.length) (hd : i < ds.length), l[i].nodes ≤ Rows.uptoBulk ds[i]) : MT.nodesAll l ≤ Rows.uptoBulkAll ds := by
  induction l generalizing ds with
  | nil => simp [MT.nodesAll]
  | cons t r ih =>
    match ds, hl with
    | d :: ds, hl =>
      simp only [MT.nodesAll, Rows.uptoBulkAll]
      have h0 := h 0 (by simp) (by simp)
      have h1 := ih ds (by simpa using hl) (fun i hi hd => h (i + 1) (by simpa using hi) (by simpa using hd))
      simp only [List.getElem_cons_zero] at h0
      omega
theorem bulk_mem {H : Type} {d : DataW H} {l : List (DataW H)} (h : d ∈ l) : Rows.uptoBulk d ≤ Rows.uptoBulkAll l := by
  induction l with
  | nil => cases h
  | cons x r ih =>
    simp only [Rows.uptoBulkAll]
    rcases List.mem_cons.1 h with rfl | h
    · omega
    · have := ih h; omega
/-- Its numbers are words. -/
def ME.Fits (x : ME) : Prop := (-9223372036854775808 ≤ x.sync ∧ x.sync ≤ 9223372036854775807) ∧ (-9223372036854775808 ≤ x.thread ∧ x.thread ≤ 9223372036854775807) ∧ (-9223372036854775808 ≤ x.branch ∧ x.branch ≤ 9223372036854775807) ∧ (-9223372036854775808 ≤ x.flag ∧ x.flag ≤ 9223372036854775807)
section
variable {H : Type} {enc : TypeId × Value → H} {w : World} {base : Nat} {spare : Nat → Bool} {held : Bool}
theorem cells_val : Tryd.prog.cellsOf 40 = 3 := by kernel_rfl
theorem cells_int : Tryd.prog.cellsOf 3 = 1 := by kernel_rfl
theorem cells_kind : Tryd.prog.cellsOf 37 = 1 := by kernel_rfl
theorem cells_i64 : Tryd.prog.cellsOf 2 = 1 := by kernel_rfl
theorem cells_vals : Tryd.prog.cellsOf 38 = 1 := by kernel_rfl
theorem cells_ent : Tryd.prog.cellsOf 42 = 7 := by kernel_rfl
theorem open_val_cells : ∀ (N : Nat) (d : DataW H), Rows.uptoBulk d ≤ N → ∀ (fuel : Nat) (cs : List Value) (p : List MemPlace), DataW.trod enc Tryd.prog w base spare held fuel 40 cs = some (d, p) → ∃ t : MT, cs = t.cells ∧ t.In w ∧ t.nodes ≤ Rows.uptoBulk d := by
  intro N
  induction N with
  | zero => intro d hd fuel cs p h; obtain ⟨xs, n, _, hx, _⟩ := DataW.trod_struct Tryd.underlying40 h; injection hx with hx _; subst hx; simp [Rows.uptoBulk] at hd
  | succ N ih =>
    intro d hd fuel cs p h
    obtain ⟨xs, n, _, hx, hl, hlen, hf⟩ := DataW.trod_struct Tryd.underlying40 h
    injection hx with hx _
    subst hx
    rw [cells_val] at hl
    obtain ⟨c0, c1, c2, rfl⟩ := list3 hl
    obtain ⟨x0, x1, x2, rfl⟩ := list3 hlen
    have f0 : DataW.trod enc Tryd.prog w base spare held n 37 (List.take (Tryd.prog.cellsOf 37) (List.drop 0 [c0, c1, c2])) = some x0 := hf 0 _ rfl
    have f1 : DataW.trod enc Tryd.prog w base spare held n 2 (List.take (Tryd.prog.cellsOf 2) (List.drop 1 [c0, c1, c2])) = some x1 := hf 1 _ rfl
    have f2 : DataW.trod enc Tryd.prog w base spare held n 38 (List.take (Tryd.prog.cellsOf 38) (List.drop 2 [c0, c1, c2])) = some x2 := hf 2 _ rfl
    rw [cells_kind] at f0
    rw [cells_i64] at f1
    rw [cells_vals] at f2
    simp only [List.drop_zero, List.drop_succ_cons, List.take_succ_cons, List.take_zero] at f0 f1 f2
    obtain ⟨z0, hz0, hx0, _⟩ := DataW.trod_int Tryd.underlying37 f0
    obtain ⟨z1, hz1, hx1, _⟩ := DataW.trod_int Tryd.underlying2 f1
    injection hz0 with hz0 _
    injection hz1 with hz1 _
    subst hz0 hz1 hx0 hx1
    simp only [List.map_cons, List.map_nil, Rows.uptoBulk, Rows.uptoBulkAll] at hd ⊢
    rcases open_slice Tryd.underlying38 f2 with ⟨hcs, hx2⟩ | ⟨a, len, cap, m, n', D, Pl, hcs, hb, hlc, hm, hmm, hx2, hi⟩
    · injection hcs with hcs _
      subst hcs
      exact ⟨.mk z0 z1 none 0 [], rfl, MT.in_mk (by simp) (fun i hi => by simp at hi) (by simp), by simp [MT.nodes, MT.nodesAll]⟩
    · injection hcs with hcs _
      subst hcs
      have hlm : len ≤ m := by rw [hmm]; split <;> omega
      subst hx2
      simp only [Rows.uptoBulk] at hd ⊢
      obtain ⟨l, hll, hp⟩ := list_of_forall (p := fun i (t : MT) => (∀ j, j < 3 → w.cell? ((a.add (i * 3)).add j) = t.cells[j]?) ∧ t.In w ∧ t.nodes ≤ Rows.uptoBulk (D i)) len (fun i hil => by
        obtain ⟨cs', hc, ht'⟩ := hi i (by omega)
        rw [cells_val] at hc
        obtain ⟨_, hcl, hat⟩ := World.cells?_some hc
        have hbi : Rows.uptoBulk (D i) ≤ Rows.uptoBulkAll ((List.range len).map D) := bulk_mem (List.mem_map.2 ⟨i, List.mem_range.2 hil, rfl⟩)
        obtain ⟨t, rfl, ht1, ht2⟩ := ih (D i) (by omega) _ _ _ ht'
        exact ⟨t, hat, ht1, ht2⟩)
      subst hll
      refine ⟨.mk z0 z1 (some a) cap l, rfl, MT.in_mk (by simp only [maxLen] at hm; omega) (fun i hil => ?_) (fun t ht => ?_), ?_⟩
      · obtain ⟨hat, _, _⟩ := hp i hil
        obtain ⟨b, o, sp⟩ := a
        have hsp : sp = none := by
          obtain ⟨hat0, _, _⟩ := hp 0 (by omega)
          have h00 := hat0 0 (by omega)
          rw [add_add'] at h00
          have h01 : w.cell? ((⟨b, o, sp⟩ : Addr).add 0) = some (.int .i64 (l[0]'(by omega)).kind) := by simp only [Nat.zero_mul, Nat.add_zero] at h00; exact h00
          simpa [Addr.add] using World.cell?_spot h01
        subst hsp
        have h0 := hat 0 (by omega)
        rw [add_add', Addr.add_lit] at h0
        refine ⟨b, o, rfl, World.block_lt_of_cell? w _ (u := .int .i64 l[i].kind) h0, fun j hj => ?_⟩
        have := hat j hj
        rw [add_add', Addr.add_lit, ← Nat.add_assoc] at this
        exact this
      · obtain ⟨i, hil, rfl⟩ := List.mem_iff_getElem.1 ht
        exact (hp i hil).2.1
      · have := nodesAll_le l ((List.range l.length).map D) (by simp) (fun i hil hd => by simp; exact (hp i hil).2.2)
        simp only [MT.nodes]
        omega
theorem list7 {α : Type} {l : List α} (h : l.length = 7) : ∃ a b c d e f g, l = [a, b, c, d, e, f, g] := by
  match l, h with
  | [a, b, c, d, e, f, g], _ => exact ⟨a, b, c, d, e, f, g, rfl⟩
theorem list5 {α : Type} {l : List α} (h : l.length = 5) : ∃ a b c d e, l = [a, b, c, d, e] := by
  match l, h with
  | [a, b, c, d, e], _ => exact ⟨a, b, c, d, e, rfl⟩
theorem open_ent_cells (fuel : Nat) (cs : List Value) (d : DataW H) (p : List MemPlace) (h : DataW.trod enc Tryd.prog w base spare held fuel 42 cs = some (d, p)) : ∃ x : ME, cs = x.cells ∧ x.v.In w ∧ x.v.nodes ≤ Rows.uptoBulk d ∧ x.Fits := by
  obtain ⟨xs, n, _, hx, hl, hlen, hf⟩ := DataW.trod_struct Tryd.underlying42 h
  injection hx with hx _
  subst hx
  rw [cells_ent] at hl
  obtain ⟨c0, c1, c2, c3, c4, c5, c6, rfl⟩ := list7 hl
  obtain ⟨x0, x1, x2, x3, x4, rfl⟩ := list5 hlen
  have f0 : DataW.trod enc Tryd.prog w base spare held n 3 (List.take (Tryd.prog.cellsOf 3) (List.drop 0 [c0, c1, c2, c3, c4, c5, c6])) = some x0 := hf 0 _ rfl
  have f1 : DataW.trod enc Tryd.prog w base spare held n 3 (List.take (Tryd.prog.cellsOf 3) (List.drop 1 [c0, c1, c2, c3, c4, c5, c6])) = some x1 := hf 1 _ rfl
  have f2 : DataW.trod enc Tryd.prog w base spare held n 3 (List.take (Tryd.prog.cellsOf 3) (List.drop 2 [c0, c1, c2, c3, c4, c5, c6])) = some x2 := hf 2 _ rfl
  have f3 : DataW.trod enc Tryd.prog w base spare held n 3 (List.take (Tryd.prog.cellsOf 3) (List.drop 3 [c0, c1, c2, c3, c4, c5, c6])) = some x3 := hf 3 _ rfl
  have f4 : DataW.trod enc Tryd.prog w base spare held n 40 (List.take (Tryd.prog.cellsOf 40) (List.drop 4 [c0, c1, c2, c3, c4, c5, c6])) = some x4 := hf 4 _ rfl
  rw [cells_int] at f0 f1 f2 f3
  rw [cells_val] at f4
  simp only [List.drop_zero, List.drop_succ_cons, List.take_succ_cons, List.take_zero] at f0 f1 f2 f3 f4
  obtain ⟨z0, hz0, hx0, g0⟩ := DataW.trod_int Tryd.underlying3 f0
  obtain ⟨z1, hz1, hx1, g1⟩ := DataW.trod_int Tryd.underlying3 f1
  obtain ⟨z2, hz2, hx2, g2⟩ := DataW.trod_int Tryd.underlying3 f2
  obtain ⟨z3, hz3, hx3, g3⟩ := DataW.trod_int Tryd.underlying3 f3
  injection hz0 with hz0 _
  injection hz1 with hz1 _
  injection hz2 with hz2 _
  injection hz3 with hz3 _
  subst hz0 hz1 hz2 hz3
  obtain ⟨x4, p4⟩ := x4
  obtain ⟨t, ht, hin, hno⟩ := open_val_cells _ x4 (Nat.le_refl _) _ _ _ f4
  have ht' : c4 = .int .i64 t.kind ∧ c5 = .int .i64 t.num ∧ c6 = t.sl := by simpa [MT.cells] using ht
  obtain ⟨rfl, rfl, rfl⟩ := ht'
  refine ⟨⟨z0, z1, z2, z3, t⟩, rfl, hin, ?_, bounds_i64 g0, bounds_i64 g1, bounds_i64 g2, bounds_i64 g3⟩
  simp only [List.map_cons, List.map_nil, Rows.uptoBulk, Rows.uptoBulkAll]
  show t.nodes ≤ _
  omega
/-- An entry by value. -/
theorem open_ent {r : Reach} {b0 : Nat} {v : Value} {d : DataW H} {p : List MemPlace} (hv : Value.okWide Tryd.prog w r b0 42 v) (h : DataW.Trod enc Tryd.prog w base spare held 42 v d p) : ∃ x : ME, v = x.val ∧ x.v.In w ∧ x.v.nodes ≤ Rows.uptoBulk d ∧ x.Fits := by
  obtain ⟨cs, rfl, hsz⟩ := okWide_struct Tryd.underlying42 hv
  obtain ⟨fuel, hf⟩ := h
  obtain ⟨x, hx, h1, h2, h3⟩ := open_ent_cells fuel _ d p hf
  refine ⟨x, ?_, h1, h2, h3⟩
  have : cs = x.cells.toArray := by
    apply Array.ext'
    simpa [Value.cells] using hx
  rw [this]
  rfl
/-- Entries in a slice. -/
theorem open_ents {fuel : Nat} {c : Value} {d : DataW H} {p : List MemPlace} (h : DataW.trod enc Tryd.prog w base spare held fuel 56 [c] = some (d, p)) : ∃ (a : Option Addr) (cap : Nat) (l : List ME), c = .slice a l.length cap ∧ l.length ≤ maxLen ∧ EntsAt w a l ∧ ∀ x ∈ l, x.v.In w ∧ x.v.nodes ≤ Rows.uptoBulk d ∧ x.Fits := by
  rcases open_slice Tryd.underlying56 h with ⟨hcs, hx2⟩ | ⟨a, len, cap, m, n', D, Pl, hcs, hb, hlc, hm, hmm, hx2, hi⟩
  · injection hcs with hcs _
    subst hcs
    exact ⟨none, 0, [], rfl, by simp [maxLen], fun i hi => by simp at hi, by simp⟩
  · injection hcs with hcs _
    subst hcs
    have hlm : len ≤ m := by rw [hmm]; split <;> omega
    injection hx2 with hx2 _
    subst hx2
    obtain ⟨l, hll, hp⟩ := list_of_forall (p := fun i (t : ME) => (∀ j, j < 7 → w.cell? ((a.add (i * 7)).add j) = t.cells[j]?) ∧ t.v.In w ∧ t.v.nodes ≤ Rows.uptoBulk (D i) ∧ t.Fits) len (fun i hil => by
      obtain ⟨cs', hc, ht'⟩ := hi i (by omega)
      rw [cells_ent] at hc
      obtain ⟨_, hcl, hat⟩ := World.cells?_some hc
      obtain ⟨t, rfl, ht1, ht2, ht3⟩ := open_ent_cells _ _ _ _ ht'
      exact ⟨t, hat, ht1, ht2, ht3⟩)
    subst hll
    refine ⟨some a, cap, l, rfl, by omega, fun i hil => ?_, fun x hx => ?_⟩
    · obtain ⟨hat, _, _⟩ := hp i hil
      obtain ⟨b, o, sp⟩ := a
      have hsp : sp = none := by
        obtain ⟨hat0, _, _⟩ := hp 0 (by omega)
        have h00 := hat0 0 (by omega)
        rw [add_add'] at h00
        have h01 : w.cell? ((⟨b, o, sp⟩ : Addr).add 0) = some (.int .i64 (l[0]'(by omega)).sync) := by simp only [Nat.zero_mul, Nat.add_zero] at h00; exact h00
        simpa [Addr.add] using World.cell?_spot h01
      subst hsp
      have hc : ∀ j, j < 7 → w.cell? ⟨b, o + i * 7 + j, none⟩ = l[i].cells[j]? := fun j hj => by
        have := hat j hj
        rw [add_add', Addr.add_lit, ← Nat.add_assoc] at this
        exact this
      exact ⟨b, o, rfl, World.block_lt_of_cell? w _ (u := .int .i64 l[i].sync) (hc 0 (by omega)), hc 0 (by omega), hc 1 (by omega), hc 2 (by omega), hc 3 (by omega), hc 4 (by omega), hc 5 (by omega), hc 6 (by omega)⟩
    · obtain ⟨i, hil, rfl⟩ := List.mem_iff_getElem.1 hx
      obtain ⟨_, h1, h2, h3⟩ := hp i hil
      have hbi : Rows.uptoBulk (D i) ≤ Rows.uptoBulkAll ((List.range l.length).map D) := bulk_mem (List.mem_map.2 ⟨i, List.mem_range.2 hil, rfl⟩)
      refine ⟨h1, ?_, h3⟩
      simp only [Rows.uptoBulk]
      omega
end
end Go.Proofs.YtihmbgdkllmkaaaDoor

/-
  Arguments that are calls of law 14, opened: a slice of them, and two of them.
-/
namespace Go.Proofs.YtihmbgdkllmkaaaDoor
open Go.ChangeShapes Go.WideShapes Go.Deep Go.RowKit
set_option linter.unusedVariables false
set_option maxRecDepth 100000

theorem list8 {α : Type} {l : List α} (h : l.length = 8) : ∃ a b c d e f g i, l = [a, b, c, d, e, f, g, i] := by
  match l, h with
  | [a, b, c, d, e, f, g, i], _ => exact ⟨a, b, c, d, e, f, g, i, rfl⟩
theorem list2 {α : Type} {l : List α} (h : l.length = 2) : ∃ a b, l = [a, b] := by
  match l, h with
  | [a, b], _ => exact ⟨a, b, rfl⟩
theorem list10 {α : Type} {l : List α} (h : l.length = 10) : ∃ a b c d e f g i j k, l = [a, b, c, d, e, f, g, i, j, k] := by
  match l, h with
  | [a, b, c, d, e, f, g, i, j, k], _ => exact ⟨a, b, c, d, e, f, g, i, j, k, rfl⟩
theorem list4' {α : Type} {l : List α} (h : l.length = 4) : ∃ a b c d, l = [a, b, c, d] := by
  match l, h with
  | [a, b, c, d], _ => exact ⟨a, b, c, d, rfl⟩
theorem list20 {α : Type} {l : List α} (h : l.length = 20) : ∃ a0 a1 a2 a3 a4 a5 a6 a7 a8 a9 b0 b1 b2 b3 b4 b5 b6 b7 b8 b9, l = [a0, a1, a2, a3, a4, a5, a6, a7, a8, a9, b0, b1, b2, b3, b4, b5, b6, b7, b8, b9] := by
  match l, h with
  | [a0, a1, a2, a3, a4, a5, a6, a7, a8, a9, b0, b1, b2, b3, b4, b5, b6, b7, b8, b9], _ => exact ⟨a0, a1, a2, a3, a4, a5, a6, a7, a8, a9, b0, b1, b2, b3, b4, b5, b6, b7, b8, b9, rfl⟩
/-- Two calls, as one value. -/
def twoCells14 (x y : C4) : Array Value := (x.cells ++ y.cells).toArray
def twoVal14 (x y : C4) : Value := .agg (twoCells14 x y)
section
variable {H : Type} {enc : TypeId × Value → H} {w : World} {base : Nat} {spare : Nat → Bool} {held : Bool}
theorem cells_side : Tryd.prog.cellsOf 45 = 1 := by kernel_rfl
theorem cells_act14 : Tryd.prog.cellsOf 68 = 10 := by kernel_rfl
theorem cells_two14 : Tryd.prog.cellsOf 87 = 20 := by kernel_rfl
/-- What an opened call is. -/
def C4.Opened (x : C4) (w : World) (N : Nat) : Prop := x.e.v.In w ∧ x.e.v.nodes ≤ N
theorem open_act14_cells (fuel : Nat) (cs : List Value) (d : DataW H) (p : List MemPlace) (h : DataW.trod enc Tryd.prog w base spare held fuel 68 cs = some (d, p)) : ∃ x : C4, cs = x.cells ∧ x.Opened w (Rows.uptoBulk d) := by
  obtain ⟨xs, n, _, hx, hl, hlen, hf⟩ := DataW.trod_struct Tryd.underlying68 h
  injection hx with hx _
  subst hx
  rw [cells_act14] at hl
  obtain ⟨c0, c1, c2, c3, c4, c5, c6, c7, c8, c9, rfl⟩ := list10 hl
  obtain ⟨x0, x1, x2, x3, rfl⟩ := list4' hlen
  have f0 : DataW.trod enc Tryd.prog w base spare held n 3 (List.take (Tryd.prog.cellsOf 3) (List.drop 0 [c0, c1, c2, c3, c4, c5, c6, c7, c8, c9])) = some x0 := hf 0 _ rfl
  have f1 : DataW.trod enc Tryd.prog w base spare held n 45 (List.take (Tryd.prog.cellsOf 45) (List.drop 1 [c0, c1, c2, c3, c4, c5, c6, c7, c8, c9])) = some x1 := hf 1 _ rfl
  have f2 : DataW.trod enc Tryd.prog w base spare held n 3 (List.take (Tryd.prog.cellsOf 3) (List.drop 2 [c0, c1, c2, c3, c4, c5, c6, c7, c8, c9])) = some x2 := hf 2 _ rfl
  have f3 : DataW.trod enc Tryd.prog w base spare held n 42 (List.take (Tryd.prog.cellsOf 42) (List.drop 3 [c0, c1, c2, c3, c4, c5, c6, c7, c8, c9])) = some x3 := hf 3 _ rfl
  rw [cells_int] at f0 f2
  rw [cells_side] at f1
  rw [cells_ent] at f3
  simp only [List.drop_zero, List.drop_succ_cons, List.take_succ_cons, List.take_zero] at f0 f1 f2 f3
  obtain ⟨z0, hz0, hx0, g0⟩ := DataW.trod_int Tryd.underlying3 f0
  obtain ⟨z1, hz1, hx1, g1⟩ := DataW.trod_int Tryd.underlying45 f1
  obtain ⟨z2, hz2, hx2, g2⟩ := DataW.trod_int Tryd.underlying3 f2
  injection hz0 with hz0 _
  injection hz1 with hz1 _
  injection hz2 with hz2 _
  subst hz0 hz1 hz2
  obtain ⟨x3, p3⟩ := x3
  obtain ⟨e, he, h1, h2, _⟩ := open_ent_cells _ _ _ _ f3
  refine ⟨⟨z0, z1, z2, e⟩, ?_, h1, ?_⟩
  · simp only [C4.cells]; rw [← he]
  · show e.v.nodes ≤ _
    simp only [List.map_cons, List.map_nil, Rows.uptoBulk, Rows.uptoBulkAll]
    omega
/-- One call. -/
theorem open_act14 {r : Reach} {b0 : Nat} {v : Value} {d : DataW H} {p : List MemPlace} (hv : Value.okWide Tryd.prog w r b0 68 v) (h : DataW.Trod enc Tryd.prog w base spare held 68 v d p) : ∃ x : C4, v = .agg x.cells.toArray ∧ x.Opened w (Rows.uptoBulk d) := by
  simp only [Value.okWide, Tryd.underlying68] at hv
  obtain ⟨cs, rfl, hsz, _⟩ := hv
  obtain ⟨fuel, hf⟩ := h
  obtain ⟨x, hx, hxo⟩ := open_act14_cells _ _ _ _ hf
  refine ⟨x, ?_, hxo⟩
  have h2 : cs.toList = x.cells := by simpa [Value.cells] using hx
  rw [← h2]
/-- Calls in a slice. -/
theorem open_acts14 {fuel : Nat} {c : Value} {d : DataW H} {p : List MemPlace} (h : DataW.trod enc Tryd.prog w base spare held fuel 50 [c] = some (d, p)) : ∃ (a : Option Addr) (cap : Nat) (l : List C4), c = .slice a l.length cap ∧ l.length ≤ maxLen ∧ C4sAt w a l ∧ ∀ x ∈ l, x.Opened w (Rows.uptoBulk d) := by
  rcases open_slice Tryd.underlying50 h with ⟨hcs, hx2⟩ | ⟨a, len, cap, m, n', D, Pl, hcs, hb, hlc, hm, hmm, hx2, hi⟩
  · injection hcs with hcs _
    subst hcs
    exact ⟨none, 0, [], rfl, by simp [maxLen], fun i hi => by simp at hi, by simp⟩
  · injection hcs with hcs _
    subst hcs
    have hlm : len ≤ m := by rw [hmm]; split <;> omega
    injection hx2 with hx2 _
    subst hx2
    obtain ⟨l, hll, hp⟩ := list_of_forall (p := fun i (t : C4) => (∀ j, j < 10 → w.cell? ((a.add (i * 10)).add j) = t.cells[j]?) ∧ t.Opened w (Rows.uptoBulk (D i))) len (fun i hil => by
      obtain ⟨cs', hc, ht'⟩ := hi i (by omega)
      rw [cells_act14] at hc
      obtain ⟨_, hcl, hat⟩ := World.cells?_some hc
      obtain ⟨t, rfl, ht1⟩ := open_act14_cells _ _ _ _ ht'
      exact ⟨t, hat, ht1⟩)
    subst hll
    refine ⟨some a, cap, l, rfl, by omega, fun i hil => ?_, fun x hx => ?_⟩
    · obtain ⟨hat, _⟩ := hp i hil
      obtain ⟨b, o, sp⟩ := a
      have hsp : sp = none := by
        obtain ⟨hat0, _⟩ := hp 0 (by omega)
        have h00 := hat0 0 (by omega)
        rw [add_add'] at h00
        have h01 : w.cell? ((⟨b, o, sp⟩ : Addr).add 0) = some (.int .i64 (l[0]'(by omega)).what) := by simp only [Nat.zero_mul, Nat.add_zero] at h00; exact h00
        simpa [Addr.add] using World.cell?_spot h01
      subst hsp
      have hc : ∀ j, j < 10 → w.cell? ⟨b, o + i * 10 + j, none⟩ = l[i].cells[j]? := fun j hj => by
        have := hat j hj
        rw [add_add', Addr.add_lit, ← Nat.add_assoc] at this
        exact this
      exact ⟨b, o, rfl, World.block_lt_of_cell? w _ (u := .int .i64 l[i].what) (hc 0 (by omega)), hc 0 (by omega), hc 1 (by omega), hc 2 (by omega), hc 3 (by omega), hc 4 (by omega), hc 5 (by omega), hc 6 (by omega), hc 7 (by omega), hc 8 (by omega), hc 9 (by omega)⟩
    · obtain ⟨i, hil, rfl⟩ := List.mem_iff_getElem.1 hx
      obtain ⟨_, h1, h2⟩ := hp i hil
      have hbi : Rows.uptoBulk (D i) ≤ Rows.uptoBulkAll ((List.range l.length).map D) := bulk_mem (List.mem_map.2 ⟨i, List.mem_range.2 hil, rfl⟩)
      refine ⟨h1, ?_⟩
      simp only [Rows.uptoBulk]
      omega
/-- Such an argument. -/
theorem open_acts14_arg {r : Reach} {b0 : Nat} {v : Value} {d : DataW H} {p : List MemPlace} (hv : Value.okWide Tryd.prog w r b0 50 v) (h : DataW.Trod enc Tryd.prog w base spare held 50 v d p) : ∃ (a : Option Addr) (cap : Nat) (l : List C4), v = .slice a l.length cap ∧ l.length ≤ maxLen ∧ C4sAt w a l ∧ ∀ x ∈ l, x.Opened w (Rows.uptoBulk d) := by
  obtain ⟨a, len, cap, rfl⟩ := okWide_slice Tryd.underlying50 hv
  obtain ⟨fuel, hf⟩ := h
  exact open_acts14 (c := .slice a len cap) hf
theorem open_two14 {r : Reach} {b0 : Nat} {v : Value} {d : DataW H} {p : List MemPlace} (hv : Value.okWide Tryd.prog w r b0 87 v) (h : DataW.Trod enc Tryd.prog w base spare held 87 v d p) : ∃ x y : C4, v = twoVal14 x y ∧ ∀ z ∈ [x, y], z.Opened w (Rows.uptoBulk d) := by
  simp only [Value.okWide, Tryd.underlying87] at hv
  obtain ⟨cs, rfl, hsz, _⟩ := hv
  obtain ⟨fuel, hf⟩ := h
  obtain ⟨xs, n, _, hx, hl, hlen, hfe⟩ := DataW.trod_array Tryd.underlying87 hf
  injection hx with hx _
  subst hx
  rw [cells_two14] at hl
  obtain ⟨a0, a1, a2, a3, a4, a5, a6, a7, a8, a9, b0, b1, b2, b3, b4, b5, b6, b7, b8, b9, hcs⟩ := list20 hl
  obtain ⟨x0, x1, rfl⟩ := list2 hlen
  have f0 := hfe 0 (by omega)
  have f1 := hfe 1 (by omega)
  rw [hcs, cells_act14] at f0 f1
  simp only [Nat.zero_mul, Nat.one_mul, List.drop_zero, List.drop_succ_cons, List.take_succ_cons, List.take_zero, List.getElem?_cons_zero, List.getElem?_cons_succ] at f0 f1
  obtain ⟨d0, p0⟩ := x0
  obtain ⟨d1, p1⟩ := x1
  obtain ⟨x, hx, hxo⟩ := open_act14_cells _ _ _ _ f0
  obtain ⟨y, hy, hyo⟩ := open_act14_cells _ _ _ _ f1
  refine ⟨x, y, ?_, fun z hz => ?_⟩
  · have : cs = twoCells14 x y := by
      have h2 : cs.toList = (twoCells14 x y).toList := by
        have h3 : cs.toList = [a0, a1, a2, a3, a4, a5, a6, a7, a8, a9] ++ [b0, b1, b2, b3, b4, b5, b6, b7, b8, b9] := by simpa [Value.cells] using hcs
        rw [h3, hx, hy]; simp [twoCells14]
      exact Array.ext' h2
    rw [this]
    rfl
  · simp only [List.map_cons, List.map_nil, Rows.uptoBulk, Rows.uptoBulkAll]
    simp at hz
    rcases hz with rfl | rfl
    · exact ⟨hxo.1, by have := hxo.2; omega⟩
    · exact ⟨hyo.1, by have := hyo.2; omega⟩
end
end Go.Proofs.YtihmbgdkllmkaaaDoor
