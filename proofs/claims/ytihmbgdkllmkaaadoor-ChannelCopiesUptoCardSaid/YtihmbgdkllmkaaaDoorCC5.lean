/-
  Texts 5 of 5 that ChannelCopies rests on, laid together by program: Marks, SameCh, Same13, R14c, OpenV, Open14, ChannelCopiesW.
-/
import Derived.Test.YtihmbgdkllmkaaaDoorCC1
import Derived.Test.YtihmbgdkllmkaaaDoorCC2
import Derived.Test.YtihmbgdkllmkaaaDoorCC3
import Derived.Test.YtihmbgdkllmkaaaDoorCC4
import Derived.Deep.Cut
import Derived.Deep.CutRange
import Derived.Test.YtihmbgdkllmkaaaDoorRows
import Derived.Deep.Slices
import Derived.Deep.Fields
import Derived.ChangeSame
import Derived.ProofKit
import Derived.OpenShut
/-
  Many loops over iterators, one behind another: their marks as one thing; rows of integers.
-/
namespace Go.Proofs.YtihmbgdkllmkaaaDoor
open Go.RowKit Go.Shelf
set_option linter.unusedVariables false
set_option linter.unusedSimpArgs false

/-- The marks of loops that are over. -/
def marksT (Ds : List Nat) : Thing where
  holds w fp := fp = Ds ∧ Ds.Nodup ∧ ∀ D ∈ Ds, w.heap[D]? = some (.deferred (some []))
  keep := fun ⟨h1, h2, h3⟩ he => ⟨h1, h2, fun D hD => (he D (h1 ▸ hD)).trans (h3 D hD)⟩
  lt := fun ⟨h1, h2, h3⟩ k hk => by subst h1; exact (Array.getElem?_eq_some_iff.1 (h3 k hk)).1
theorem shutAll_touch (ks : List Nat) : ∀ (w : World), Touch ks w (shutAll w ks) := by
  induction ks with
  | nil => intro w; exact Touch.refl _ _
  | cons k ks ih =>
    intro w
    have h1 : Touch (k :: ks) w (w.putObj k (.deferred none)) := (Touch.refl _ w).putObj (.inr (by simp)) _
    exact h1.trans (ih _) (fun x hx => .inl (by simp [hx]))
section
variable {T : List Nat} {w0 w w' : World} {l : List Thing} {Ds : List Nat} {D : Nat}
theorem Led.marks0 (h : Led T w0 w l) : Led T w0 w (l ++ [marksT []]) := h.new (t' := marksT []) (f' := []) ⟨rfl, by simp, by simp⟩ ⟨Touch.refl _ _, by simp⟩
theorem Led.marksAt (h : Led T w0 w l) (i : Nat) (hi : l[i]? = some (marksT Ds)) : Ds.Nodup ∧ ∀ D ∈ Ds, w.heap[D]? = some (.deferred (some [])) := let ⟨_, h, _⟩ := h.get i hi; h.2
/-- One mark more (at the end: the mark, the marks). -/
theorem Led.addMark (h : Led T w0 w (l ++ [Proofs.YtihmbgdkllmkaaaDoor.mark D, marksT Ds])) : Led T w0 w (l ++ [marksT (D :: Ds)]) := by
  have hd : D ∉ Ds := by
    obtain ⟨_, F, h1, h2⟩ := h
    have e1 : (l ++ [Proofs.YtihmbgdkllmkaaaDoor.mark D, marksT Ds])[l.length]? = some (Proofs.YtihmbgdkllmkaaaDoor.mark D) := by simp
    have e2 : (l ++ [Proofs.YtihmbgdkllmkaaaDoor.mark D, marksT Ds])[l.length + 1]? = some (marksT Ds) := by simp
    have a1 := (h1 _ _ e1).1.1
    have a2 := (h1 _ _ e2).1.1
    have := h2 l.length (l.length + 1) (by simp) (by simp) (by omega) D (by rw [a1]; simp)
    rwa [a2] at this
  refine h.merge ?_
  rintro f1 f2 ⟨a1, a2⟩ ⟨b1, b2, b3⟩
  refine ⟨by rw [a1, b1]; rfl, List.nodup_cons.2 ⟨hd, b2⟩, fun x hx => ?_⟩
  rcases List.mem_cons.1 hx with rfl | hx
  · exact a2
  · exact b3 x hx
theorem Led.shutM (h : Led T w0 w l) (i : Nat) (hi : l[i]? = some (marksT Ds)) : Led T w0 (Proofs.YtihmbgdkllmkaaaDoor.shutAll w Ds) (l.set i (Proofs.YtihmbgdkllmkaaaDoor.fact True)) := by
  obtain ⟨f, ⟨hf, hm⟩, _, hs⟩ := h.step i hi
  subst hf
  exact hs _ (Proofs.YtihmbgdkllmkaaaDoor.fact True) [] ⟨rfl, trivial⟩ ⟨shutAll_touch _ _, by simp⟩
/-- A bool in a cell is returned, behind as many loops as there were. -/
theorem led_retM {n : Nat} {W : World} {fn : Func} {ra : Tmp} (hres : fn.results = #[ResultVar.cell ra 4]) {tmps : Array Value} {b : Nat} (htm : tmps.getD ra undef = .pointer (some ⟨b, 0, none⟩))
    (HK : Led T w W l) (i : Nat) {u : Value} (hi : l[i]? = some (box b 4 #[u])) {c : Bool} (hc : c = true) (m : Nat) (him : m ≠ i) (hm : l[m]? = some (marksT Ds)) {R : Ending → World → Prop}
    (hR : ∀ W', Touch T w W' → R (.returned (.bool true)) W') :
    bodyPostM Fence.wide n Tryd.prog fn R .ret { tmps := tmps, defers := Ds.map fun k => { target := .collected k, args := #[] } } (W.setCell ⟨b, 0, none⟩ (.bool c)) := by
  subst hc
  have h1 := HK.set i hi 0 (.bool true)
  have hi' := (List.getElem?_eq_some_iff.1 hi).1
  have e1 : #[u].setIfInBounds 0 (.bool true) = #[.bool true] := rfl
  rw [e1] at h1
  have hm1 : (l.set i (box b 4 #[.bool true]))[m]? = some (marksT Ds) := by rw [List.getElem?_set_ne (Ne.symm him)]; exact hm
  obtain ⟨hnd, hat⟩ := h1.marksAt m hm1
  have h2 := h1.shutM m hm1
  refine leave_marks (v := .bool true) Ds _ hat hnd (results_bool hres htm (h2.c1w (t := 4) i ?_)) (hR _ h2.tch)
  rw [List.getElem?_set_ne him, List.getElem?_set_self hi']
end

/-- Numbers as cells. -/
def natCells (l : List Nat) : List Value := l.map fun (z : Nat) => Value.int .i64 (z : Int)
theorem natCells_length (l : List Nat) : (natCells l).length = l.length := by simp [natCells]
theorem natCells_one (l : List Nat) : ∀ u ∈ natCells l, u.oneCell' = true := by
  intro u hu
  obtain ⟨z, _, rfl⟩ := List.mem_map.1 hu
  rfl
theorem natCells_get (l : List Nat) (i : Nat) (hi : i < l.length) : (natCells l)[i]? = some (.int .i64 (l[i] : Int)) := by simp [natCells, hi]
theorem nat_cell {w : World} {e cap n : Nat} {a : Option Addr} {zs : List Nat} (h : rowS w e 1 (.slice a n cap) n (natCells zs)) (hn : zs.length = n) {i : Nat} (hi : i < zs.length) : ∃ g, a = some ⟨g, 0, none⟩ ∧ g < w.heap.size ∧ w.cell? ⟨g, i, none⟩ = some (.int .i64 (zs[i] : Int)) := by
  subst hn
  obtain ⟨g, cap', cur, hv, hg, _⟩ := rowS_form h (by omega)
  injection hv with h1 _ h3
  subst h1 h3
  refine ⟨g, rfl, rowS_lt h g (by simp [sb, Value.ownBlock]), ?_⟩
  rw [rowS_cell h i (by rw [natCells_length]; exact hi)]
  simp [natCells]
end Go.Proofs.YtihmbgdkllmkaaaDoor

/-
  Layer 14: Same of two channels of one lock (channel.go): a loop over an iterator, inside a loop over the two sides.
-/
namespace Go.Proofs.YtihmbgdkllmkaaaDoor
open Go.RowKit Go.Shelf
set_option maxRecDepth 100000
set_option linter.unusedVariables false
set_option linter.unusedSimpArgs false
attribute [local go_sem] Oper.semAt_some

/-- The side of a turn. -/
def sdv (k : Nat) : Int := if k = 0 then 1 else 2
theorem sdv_idx (k : Nat) (hk : k < 2) (W : World) : (Instr.index 99 (.agg #[.int .i64 1, .int .i64 2]) (.int .i64 (k : Int))).run Tryd.prog W = .ok (.int .i64 (sdv k)) W := by
  have : k = 0 ∨ k = 1 := by omega
  rcases this with rfl | rfl
  · exact idxS0 W
  · exact idxS1 W
/-- The list of a turn. -/
def ofT (es1 es2 : List ME) (k : Nat) : List ME := if k = 0 then es1 else es2
theorem plains_eq14 {a b : List PE} (hl : a.length = b.length) (h : ∀ k, k < a.length → a[k]? = b[k]?) : a = b := by
  apply List.ext_getElem?
  intro k
  by_cases hk : k < a.length
  · exact h k hk
  · rw [List.getElem?_eq_none (by omega), List.getElem?_eq_none (by omega)]
/-- What is told of a turn. -/
def TurnS (w : World) (c1 c2 : Nat) (k : Nat) (es fs : List ME) : Prop :=
  (∀ W, Touch [] w W → ∀ p n, (p = c1 ∧ n = es.length ∨ p = c2 ∧ n = fs.length) → Calls Tryd.prog 15 #[.pointer (some ⟨p, 0, none⟩), .int .i64 (sdv k)] W fun e w' => e = .returned (.int .i64 (n : Int)) ∧ W = w') ∧
  (∀ W, Touch [] w W → Calls Tryd.prog 24 #[.pointer (some ⟨c1, 0, none⟩), .int .i64 (sdv k)] W (AllTold es W)) ∧
  (∀ W, Touch [] w W → ∀ i : Int, Calls Tryd.prog 16 #[.pointer (some ⟨c2, 0, none⟩), .int .i64 (sdv k), .int .i64 i] W (AtTold (fs.map ME.plain) i W)) ∧
  (∀ e ∈ es, e.v.nodes ≤ 256) ∧ (∀ e ∈ fs, e.v.nodes ≤ 256) ∧ es.length ≤ 4096
def owedS (Ds : List Nat) : List Deferred := Ds.map fun k => { target := .collected k, args := #[] }
def ssFrame (c1 c2 b3 b5 k : Nat) (u : Nat → Value) : Array Value := #[.pointer (some ⟨c1, 0, none⟩), .pointer (some ⟨c2, 0, none⟩), u 2, .pointer (some ⟨b3, 0, none⟩), .bool false, .pointer (some ⟨b5, 0, none⟩), u 6, u 7, u 8, u 9, u 10, u 11, u 12, u 13, u 14, u 15, u 16, u 17, u 18, u 19, u 20, u 21, u 22, u 23, u 24, u 25, u 26, u 27, u 28, u 29, u 30, u 31, u 32, u 33, u 34, u 35, u 36, u 37, u 38, u 39, u 40, u 41, u 42, u 43, u 44, u 45, u 46, u 47, u 48, u 49, u 50, u 51, .agg #[.int .i64 1, .int .i64 2], .int .i64 (k : Int), u 54, u 55, u 56, u 57, u 58, u 59, u 60, u 61, u 62, u 63, u 64, u 65, u 66, u 67, u 68, u 69, u 70, u 71, u 72, u 73, u 74, u 75, u 76, u 77]
/-- What lies there between two turns. -/
def ssL (c2 b3 b5 : Nat) (v : Bool) (Ds : List Nat) : List Thing := [box b3 30 #[.pointer (some ⟨c2, 0, none⟩)], box b5 4 #[.bool v], marksT Ds]
/-- All turns ahead of k find the same. -/
def UpTo (es1 es2 fs1 fs2 : List ME) (k : Nat) : Prop := (es1.length = fs1.length ∧ es2.length = fs2.length) ∧ ∀ j, j < k → ∀ i, i < (ofT es1 es2 j).length → ((ofT es1 es2 j).map ME.plain)[i]? = ((ofT fs1 fs2 j).map ME.plain)[i]?
def SSInv (w : World) (c1 c2 b3 b5 : Nat) (es1 es2 fs1 fs2 : List ME) (A : Act) (W : World) : Prop :=
  ∃ (k : Nat) (u : Nat → Value) (Ds : List Nat) (v : Bool), A = { tmps := ssFrame c1 c2 b3 b5 k u, defers := owedS Ds } ∧ k ≤ 2 ∧ Hid (v = true ↔ UpTo es1 es2 fs1 fs2 k) ∧ Hid (Led [] w W (ssL c2 b3 b5 v Ds))
def ssMu (a : Act) (_ : World) : Nat := 2 - (intOf (a.tmps.getD 53 undef)).toNat
section
variable {w W : World} {c1 c2 b3 b5 : Nat} {es1 es2 fs1 fs2 : List ME} {v : Bool} {tm : Array Value} {Ds : List Nat}
theorem ss_start (hT : tm = ssFrame c1 c2 b3 b5 0 (fun n => tm.getD n undef)) (hv : Hid (v = true ↔ UpTo es1 es2 fs1 fs2 0)) (HL : Hid (Led [] w W (ssL c2 b3 b5 v []))) : SSInv w c1 c2 b3 b5 es1 es2 fs1 fs2 { tmps := tm, defers := [] } W :=
  ⟨0, _, [], v, by rw [← hT]; rfl, Nat.zero_le _, hv, HL⟩
theorem ss_close {k : Nat} {u : Nat → Value} {ds0 : List Deferred} {W0 : World} (hT : tm = ssFrame c1 c2 b3 b5 (k + 1) (fun n => tm.getD n undef)) (hk : k < 2) (hv : Hid (v = true ↔ UpTo es1 es2 fs1 fs2 (k + 1))) (HL : Hid (Led [] w W (ssL c2 b3 b5 v Ds))) :
    SSInv w c1 c2 b3 b5 es1 es2 fs1 fs2 { tmps := tm, defers := owedS Ds } W ∧ ssMu { tmps := tm, defers := owedS Ds } W < ssMu { tmps := ssFrame c1 c2 b3 b5 k u, defers := ds0 } W0 := by
  refine ⟨⟨k + 1, _, Ds, v, by rw [← hT], hk, hv, HL⟩, ?_⟩
  have e1 : tm.getD 53 undef = .int .i64 ((k + 1 : Nat) : Int) := by rw [hT]; rfl
  have e2 : (ssFrame c1 c2 b3 b5 k u).getD 53 undef = .int .i64 (k : Int) := rfl
  unfold ssMu
  simp only [e1, e2, intOf]
  omega
end
theorem turns14 (w : World) (c1 : Nat) (a : Int) (M1 p1 p2 c2 M2 r1 r2 : Nat) (es1 es2 fs1 fs2 : List ME) (h1 : ChAt w c1 a M1 p1 p2) (h2 : ChAt w c2 a M2 r1 r2) (k11 : QAt w p1 es1) (k12 : QAt w p2 es2) (k21 : QAt w r1 fs1) (k22 : QAt w r2 fs2)
    (i11 : ∀ e ∈ es1, e.v.In w ∧ e.v.nodes ≤ 256) (i12 : ∀ e ∈ es2, e.v.In w ∧ e.v.nodes ≤ 256) (i21 : ∀ e ∈ fs1, e.v.In w ∧ e.v.nodes ≤ 256) (i22 : ∀ e ∈ fs2, e.v.In w ∧ e.v.nodes ≤ 256) (l1 : es1.length ≤ 4096) (l2 : es2.length ≤ 4096) (k : Nat) (hk : k < 2) : TurnS w c1 c2 k (ofT es1 es2 k) (ofT fs1 fs2 k) := by
  have : k = 0 ∨ k = 1 := by omega
  rcases this with rfl | rfl
  · refine ⟨fun W hW p n hp => ?_, fun W hW => ?_, fun W hW i => ?_, fun e he => (i11 e he).2, fun e he => (i21 e he).2, l1⟩
    · rcases hp with ⟨rfl, rfl⟩ | ⟨rfl, rfl⟩
      · exact Len_ch W p a M1 p1 p2 (h1.touch hW) 1 p1 es1 rfl (k11.touch hW)
      · exact Len_ch W p a M2 r1 r2 (h2.touch hW) 1 r1 fs1 rfl (k21.touch hW)
    · exact All_ch W c1 a M1 p1 p2 (h1.touch hW) 1 p1 es1 rfl (k11.touch hW) (fun e he => ⟨(i11 e he).1.touch0 hW, (i11 e he).2⟩) l1
    · exact Look_ch W c2 a M2 r1 r2 (h2.touch hW) 1 r1 fs1 i rfl (k21.touch hW) (fun e he => ⟨(i21 e he).1.touch0 hW, (i21 e he).2⟩)
  · refine ⟨fun W hW p n hp => ?_, fun W hW => ?_, fun W hW i => ?_, fun e he => (i12 e he).2, fun e he => (i22 e he).2, l2⟩
    · rcases hp with ⟨rfl, rfl⟩ | ⟨rfl, rfl⟩
      · exact Len_ch W p a M1 p1 p2 (h1.touch hW) 2 p2 es2 rfl (k12.touch hW)
      · exact Len_ch W p a M2 r1 r2 (h2.touch hW) 2 r2 fs2 rfl (k22.touch hW)
    · exact All_ch W c1 a M1 p1 p2 (h1.touch hW) 2 p2 es2 rfl (k12.touch hW) (fun e he => ⟨(i12 e he).1.touch0 hW, (i12 e he).2⟩) l2
    · exact Look_ch W c2 a M2 r1 r2 (h2.touch hW) 2 r2 fs2 i rfl (k22.touch hW) (fun e he => ⟨(i22 e he).1.touch0 hW, (i22 e he).2⟩)
/-- What lies there between two rounds of the loop within. -/
def srR (c2 b3 b5 : Nat) (v : Bool) (Ds : List Nat) (bx : Nat) (av : Value) (ys : List ME) (b9 : Nat) (sd : Int) (gs : List ME) (j : Nat) : List Thing :=
  [box b3 30 #[.pointer (some ⟨c2, 0, none⟩)], box b5 4 #[.bool v], marksT Ds, allT bx av ys, box b9 45 #[.int .i64 sd], fact (∀ i, i < j → (ys.map ME.plain)[i]? = (gs.map ME.plain)[i]?)]
/-- Only by a return it ends. -/
def OnlyRetS (R : Act → World → Prop) : Exit → Act → World → Prop
  | .ret, a, w => R a w
  | _, _, _ => False
set_option maxHeartbeats 8000000 in
theorem Same_ch (w : World) (c1 : Nat) (a : Int) (M1 p1 p2 c2 M2 r1 r2 : Nat) (es1 es2 fs1 fs2 : List ME) (h1 : ChAt w c1 a M1 p1 p2) (h2 : ChAt w c2 a M2 r1 r2) (hS : SidesAt w) (htu : ∀ k, k < 2 → TurnS w c1 c2 k (ofT es1 es2 k) (ofT fs1 fs2 k)) :
    Calls Tryd.prog 27 #[.pointer (some ⟨c1, 0, none⟩), .pointer (some ⟨c2, 0, none⟩)] w (Tells (es1.map ME.plain = fs1.map ME.plain ∧ es2.map ME.plain = fs2.map ME.plain) w) := by
  have H1 := Lib.hid (fun W (hW : Touch [] w W) => h1.touch hW)
  have H2 := Lib.hid (fun W (hW : Touch [] w W) => h2.touch hW)
  have HSD := Lib.hid (fun W (hW : Touch [] w W) => hS.touch hW)
  have HTS := Lib.hid htu
  clear h1 h2 hS htu
  refine (callsIn_wide (n := 0)).1 ?_
  refine callsIn_of_wp_marks Tryd.func27 rfl trivial ?_ rfl
  simp only [Tryd.ntmps27, List.size_toArray, List.length_cons, List.length_nil, Nat.reduceAdd, Nat.reduceSub, Array.replicate_succ, Array.replicate_zero, List.push_toArray, List.append_toArray, List.nil_append, List.cons_append]
  refine wpIn_wide.2 ?_
  refine Code.wp_mono (Q := OnlyRetS (fun a w' => bodyPostM Fence.wide 0 Tryd.prog Tryd.f27 (Tells (es1.map ME.plain = fs1.map ME.plain ∧ es2.map ME.plain = fs2.map ME.plain) w) .ret a w')) (fun ex a' W h => by cases ex <;> first | exact h | exact h.elim) ?_
  go_wp2_with fail
  refine wp_calls_name ?_
  intro w1 hw1
  have HL1 := Lib.hid ((Led.nil' w).al1 hw1)
  simp only [List.nil_append] at HL1
  obtain ⟨b3, hb3⟩ : ∃ b, w.heap.size = b := ⟨_, rfl⟩
  rw [hb3] at HL1 ⊢
  clear hw1 hb3
  obtain ⟨z0, fz, hz3, _, _⟩ := HL1.out.c1 0 rfl
  refine (chnone_no _ _ _ _ _ _ (H1.out w1 HL1.out.tch)).mono ?_
  rintro e w' ⟨rfl, rfl⟩
  go_wp2_with fail
  refine (chnone_no _ _ _ _ _ _ (H2.out w1 HL1.out.tch)).mono ?_
  rintro e w' ⟨rfl, rfl⟩
  obtain ⟨d0, d1, hd, _⟩ := (H1.out w1 HL1.out.tch).cells
  obtain ⟨g0, g1, hg, _⟩ := (H2.out w1 HL1.out.tch).cells
  go_upto_region 3 with fail
  go_region
  all_goals
    have HLD := Lib.hid (HL1.out.touch (Touch.refl [] w1).drew)
    obtain ⟨w2, hw2⟩ : ∃ w2, w1.drew = w2 := ⟨_, rfl⟩
    rw [hw2] at HLD ⊢
    clear hw2 d0 d1 hd g0 g1 hg z0 fz hz3 HL1
    go_upto_region 6 with fail
    refine wp_name ?_
    intro w3 hw3
    have HL3 : Hid (Led [] w w3 (ssL c2 b3 w2.heap.size true [])) := (HLD.out.al1 hw3).marks0
    obtain ⟨b5, hb5⟩ : ∃ b, w2.heap.size = b := ⟨_, rfl⟩
    rw [hb5] at HL3 ⊢
    clear hw3 hb5 HLD
    obtain ⟨t0, t1⟩ := HSD.out w3 HL3.out.tch
    have tl : 0 < w3.heap.size := World.block_lt_of_cell? _ _ t0
    go_wp2_with fail
    clear t0 t1 tl
    go_loopw [38] (fun i wr => ∃ (k : Nat) (v : Bool), i = .int .i64 (k : Int) ∧ k ≤ 2 ∧ Hid (v = true ↔ ∀ j, j < k → (ofT es1 es2 j).length = (ofT fs1 fs2 j).length) ∧ Hid (Led [] w wr (ssL c2 b3 b5 v []))) (fun i _ => 2 - (intOf i).toNat)
    case atStart => exact ⟨0, true, rfl, by omega, ⟨fun _ j hj => by omega, fun _ => rfl⟩, HL3⟩
    case round =>
      obtain ⟨k, v, rfl, hk, HV, HL⟩ := hrel
      clear HL3
      have hk0 : (0 : Int) ≤ (k : Int) := by omega
      by_cases hk2 : k < 2
      · have hk2' : (k : Int) < 2 := by omega
        have hix := sdv_idx k hk2
        have HTU := Lib.hid (HTS.out k hk2)
        have HTd := Lib.hid HL.out.tch.drew
        obtain ⟨z0, fz, hz3, _, _⟩ := HL.out.c1 0 rfl
        obtain ⟨y0, fy, hy3, _, _⟩ := HL.out.c1 1 rfl
        have hne := HL.out.ne 0 1 rfl rfl (by decide)
        have hne' := Ne.symm hne
        cases v with
        | true =>
          go_wp2_with fail
          clear hix
          go_region_law (first
            | (go_simp; refine (HTU.out.1 _ HTd.out _ _ (by first | exact .inl ⟨rfl, rfl⟩ | exact .inr ⟨rfl, rfl⟩)).mono ?_; rintro e wn ⟨rfl, rfl⟩))
          all_goals (try simp only [List.getElem_toArray, List.getElem_cons_succ, List.getElem_cons_zero, Act.put, List.setIfInBounds_toArray, List.set_cons_succ, List.set_cons_zero])
          all_goals
            have HL5 : Hid (Led [] w _ (ssL c2 b3 b5 (((ofT es1 es2 k).length : Int) == ((ofT fs1 fs2 k).length : Int)) [])) := HL.out.drew.set 1 rfl 0 (.bool (((ofT es1 es2 k).length : Int) == ((ofT fs1 fs2 k).length : Int)))
            have HV5 : Hid ((((ofT es1 es2 k).length : Int) == ((ofT fs1 fs2 k).length : Int)) = true ↔ ∀ j, j < k + 1 → (ofT es1 es2 j).length = (ofT fs1 fs2 j).length) := by
              refine ⟨fun h j hj => ?_, fun h => ?_⟩
              · by_cases hjk : j = k
                · subst hjk; have := eq_of_beq h; omega
                · exact HV.out.1 (by simp) j (by omega)
              · have := h k (by omega)
                rw [this]; simp
            clear z0 fz hz3 y0 fy hy3 hne hne' HTd HTU HL HV
            go_wp2
            go_roundw
            case rel => exact ⟨k + 1, _, by go_num, hk2, HV5, HL5⟩
            case measure => simp [intOf]; omega
        | false =>
          go_wp2_with fail
          clear hix
          refine wp_region_held_drew (S := fun w' => w'.cell? ⟨b3, 0, none⟩ = some (.pointer (some ⟨c2, 0, none⟩)) ∧ w'.cell? ⟨b5, 0, none⟩ = some (.bool false)) (by kernel_rfl) ?_ (fun hHeld => ?_)
          · (try dsimp only)
            go_keep
          refine wpAnyH_takeD (i := 0) (d := some 41) (v := ?_) rfl rfl (by kernel_rfl) (by kernel_rfl) (by kernel_rfl) (fun _ _ _ h => h) (Or.inl ⟨by rfl, ?_⟩) (by assumption) ?_
          rotate_left
          · intro w hSw
            (try dsimp only at hSw)
            first | (go_simp; done) | (go_simp; with_reducible rfl)
          (try simp only [Act.put, List.setIfInBounds_toArray, List.set_cons_zero, List.set_cons_succ])
          refine wpAnyH_takeD (i := 1) (d := some 42) (v := ?_) rfl rfl (by kernel_rfl) (by kernel_rfl) (by kernel_rfl) (fun _ _ _ h => h) (Or.inl ⟨by rfl, ?_⟩) (by assumption) ?_
          rotate_left
          · intro w hSw
            (try dsimp only at hSw)
            first | (go_simp; done) | (go_simp; with_reducible rfl)
          (try simp only [Act.put, List.setIfInBounds_toArray, List.set_cons_zero, List.set_cons_succ])
          refine wpAnyH_takeD (i := 2) (d := some 43) (v := undef) rfl rfl (by kernel_rfl) (by kernel_rfl) (by kernel_rfl) (fun _ _ _ h => h) (Or.inr ⟨by rfl, rfl⟩) (by assumption) ?_
          (try simp only [Act.put, List.setIfInBounds_toArray, List.set_cons_zero, List.set_cons_succ])
          refine wpAnyH_takeD (i := 3) (d := some 44) (v := undef) rfl rfl (by kernel_rfl) (by kernel_rfl) (by kernel_rfl) (fun _ _ _ h => h) (Or.inr ⟨by rfl, rfl⟩) (by assumption) ?_
          (try simp only [Act.put, List.setIfInBounds_toArray, List.set_cons_zero, List.set_cons_succ])
          refine wpAnyH_takeD (i := 4) (d := some 45) (v := undef) rfl rfl (by kernel_rfl) (by kernel_rfl) (by kernel_rfl) (fun _ _ _ h => h) (Or.inr ⟨by rfl, rfl⟩) (by assumption) ?_
          (try simp only [Act.put, List.setIfInBounds_toArray, List.set_cons_zero, List.set_cons_succ])
          refine wpAnyH_takeD (i := 5) (d := some 46) (v := undef) rfl rfl (by kernel_rfl) (by kernel_rfl) (by kernel_rfl) (fun _ _ _ h => h) (Or.inr ⟨by rfl, rfl⟩) (by assumption) ?_
          (try simp only [Act.put, List.setIfInBounds_toArray, List.set_cons_zero, List.set_cons_succ])
          refine wpAnyH_takeD (i := 6) (d := some 47) (v := undef) rfl rfl (by kernel_rfl) (by kernel_rfl) (by kernel_rfl) (fun _ _ _ h => h) (Or.inr ⟨by rfl, rfl⟩) (by assumption) ?_
          (try simp only [Act.put, List.setIfInBounds_toArray, List.set_cons_zero, List.set_cons_succ])
          refine wpAnyH_takeD (i := 7) (d := some 48) (v := undef) rfl rfl (by kernel_rfl) (by kernel_rfl) (by kernel_rfl) (fun _ _ _ h => h) (Or.inr ⟨by rfl, rfl⟩) (by assumption) ?_
          (try simp only [Act.put, List.setIfInBounds_toArray, List.set_cons_zero, List.set_cons_succ])
          refine wpAnyH_takeD (i := 8) (d := some 49) (v := undef) rfl rfl (by kernel_rfl) (by kernel_rfl) (by kernel_rfl) (fun _ _ _ h => h) (Or.inr ⟨by rfl, rfl⟩) (by assumption) ?_
          (try simp only [Act.put, List.setIfInBounds_toArray, List.set_cons_zero, List.set_cons_succ])
          refine wpAnyH_takeD (i := 9) (d := some 50) (v := ?_) rfl rfl (by kernel_rfl) (by kernel_rfl) (by kernel_rfl) (fun _ _ _ h => h) (Or.inl ⟨by rfl, ?_⟩) (by assumption) ?_
          rotate_left
          · intro w hSw
            (try dsimp only at hSw)
            first | (go_simp; done) | (go_simp; with_reducible rfl)
          (try simp only [Act.put, List.setIfInBounds_toArray, List.set_cons_zero, List.set_cons_succ])
          refine wpAnyH_ready (rs := [10]) (by kernel_rfl) (by simp) ?_
          refine AllReadyH.cons rfl (fun K hK => ?_) AllReadyH.nil
          go_simp
          refine hK.out _ _ ?_ (fun hHeld => ?_)
          · (try dsimp only)
            go_keep
            have h := ((HL.out.set 1 rfl 0 (.bool false)).c1 1 rfl).1
            simpa using h
          clear hK K
          (try simp only [Act.put, List.setIfInBounds_toArray, List.set_cons_zero, List.set_cons_succ])
          refine wpAnyH_done (by kernel_rfl) ?_ _
          have HL5 : Hid (Led [] w _ (ssL c2 b3 b5 false [])) := HL.out.drew.set 1 rfl 0 (.bool false)
          have HV5 : Hid (false = true ↔ ∀ j, j < k + 1 → (ofT es1 es2 j).length = (ofT fs1 fs2 j).length) := ⟨fun h => (by cases h), fun h => HV.out.2 (fun j hj => h j (by omega))⟩
          clear z0 fz hz3 y0 fy hy3 hne hne' HTd HTU HL HV
          go_wp2
          go_roundw
          case rel => exact ⟨k + 1, _, by go_num, hk2, HV5, HL5⟩
          case measure => simp [intOf]; omega
      · have hk2' : ¬ (k : Int) < 2 := by omega
        obtain rfl : k = 2 := by omega
        have HV2 : Hid (v = true ↔ UpTo es1 es2 fs1 fs2 0) := by
          refine HV.out.trans ⟨fun h => ⟨⟨h 0 (by omega), h 1 (by omega)⟩, fun j hj => by omega⟩, fun h j hj => ?_⟩
          have : j = 0 ∨ j = 1 := by omega
          rcases this with rfl | rfl
          · exact h.1.1
          · exact h.1.2
        obtain ⟨t0, t1⟩ := HSD.out wr HL.out.tch
        have tl : 0 < wr.heap.size := World.block_lt_of_cell? _ _ t0
        go_wp2_with fail
        clear t0 t1 tl
        refine wp_loop (SSInv w c1 c2 b3 b5 es1 es2 fs1 fs2) ssMu (ss_start (by kernel_rfl) HV2 HL) ?_
        clear HL HV HV2
        rintro A W ⟨k, u, Ds, v, rfl, hk, HV, HL⟩
        simp only [ssFrame]
        have hk0 : (0 : Int) ≤ (k : Int) := by omega
        by_cases hk2 : k < 2
        · have hk2' : (k : Int) < 2 := by omega
          have hix := sdv_idx k hk2
          have HTU := Lib.hid (HTS.out k hk2)
          go_wp2_with fail
          refine wp_name ?_
          intro w2 hw2
          have HL2 := Lib.hid (HL.out.al1 hw2)
          simp only [ssL, List.nil_append, List.cons_append] at HL2
          obtain ⟨b9, hb9⟩ : ∃ b, W.heap.size = b := ⟨_, rfl⟩
          rw [hb9] at HL2 ⊢
          clear hw2 hb9 HL hix
          generalize hes : ofT es1 es2 k = es at HTU
          generalize hgs : ofT fs1 fs2 k = gs at HTU
          have HES := Lib.hid hes
          have HGS := Lib.hid hgs
          clear hes hgs
          obtain ⟨s0, sf, zs, _, _⟩ := HL2.out.c1 3 rfl
          refine wp_scope_straight ?_
          go_wp2_with fail
          refine wp_label ?_
          go_wp2_with fail
          refine (HTU.out.2.1 w2 HL2.out.tch).mono ?_
          rintro e w3 ⟨bx, ra, rc, ys, rfl, hpy, hL⟩
          have HL3 := Lib.hid (((HL2.out.join hL).addFact (p := ∀ i, i < 0 → (ys.map ME.plain)[i]? = (gs.map ME.plain)[i]?) (fun i hi => by omega)).sel [0, 1, 2, 4, 3, 5] (l' := srR c2 b3 b5 v Ds bx (.slice ra ys.length rc) ys b9 (sdv k) gs 0) rfl (by decide))
          have HPY := Lib.hid hpy
          clear hL hpy HL2 s0 sf zs
          have HYL : Hid (ys.length = es.length) := by have := congrArg List.length HPY.out; unfold Hid; simpa using this
          have HYN : Hid (∀ y ∈ ys, y.v.nodes ≤ 256) := fun y hy => by
            have hm : y.plain ∈ es.map ME.plain := by rw [← HPY.out]; exact List.mem_map_of_mem hy
            obtain ⟨r, hr, hpr⟩ := List.mem_map.1 hm
            rw [plain_nodes_eq hpr]; exact HTU.out.2.2.2.1 r hr
          go_wp2_with fail
          refine (wpIn_wide (n := 0)).1 ?_
          refine range_allL (bx := bx) (ra := ra) (rc := rc) (ys := ys) rfl rfl (by rw [HYL.out]; have := HTU.out.2.2.2.2.2; omega) HYN.out (srR c2 b3 b5 v Ds bx (.slice ra ys.length rc) ys b9 (sdv k) gs)
            (fun c lx => c = .exit 4 ∧ lx = [box b3 30 #[.pointer (some ⟨c2, 0, none⟩)], box b5 4 #[.bool false], marksT Ds, allT bx (.slice ra ys.length rc) ys, box b9 45 #[.int .i64 (sdv k)], fact (¬ ∀ i, i < ys.length → (ys.map ME.plain)[i]? = (gs.map ME.plain)[i]?)]) 3 (fun _ => rfl) HL3.out ?hround ?hdone ?hstop
          case hdone =>
            intro V h
            obtain ⟨D, hD⟩ : ∃ D, w3.heap.size = D := ⟨_, rfl⟩
            rw [hD] at h ⊢
            rw [HYL.out] at h
            have HK := Lib.hid h
            simp only [srR, marks1, List.nil_append, List.cons_append] at HK
            clear h hD
            have HFa : Hid (∀ i, i < es.length → (ys.map ME.plain)[i]? = (gs.map ME.plain)[i]?) := HK.out.fact 5 rfl
            have HM : Hid (Led [] w V (ssL c2 b3 b5 v (D :: Ds))) := Led.addMark (l := [box b3 30 #[.pointer (some ⟨c2, 0, none⟩)], box b5 4 #[.bool v]]) (HK.out.sel [0, 1, 6, 2] rfl (by decide))
            have HV2 : Hid (v = true ↔ UpTo es1 es2 fs1 fs2 (k + 1)) := by
              refine HV.out.trans ⟨fun h => ⟨h.1, fun j hj i hi => ?_⟩, fun h => ⟨h.1, fun j hj => h.2 j (by omega)⟩⟩
              by_cases hjk : j = k
              · subst hjk
                rw [HES.out] at hi ⊢
                rw [HGS.out, ← HPY.out]
                exact HFa.out i hi
              · exact h.2 j (by omega) i hi
            clear HK HFa
            dsimp only
            go_wp2_with fail
            refine noGoto_normal ?_
            dsimp only [Exit.inBlock, Exit.then]
            go_wp2_with fail
            exact ss_close (Ds := D :: Ds) (by kernel_rfl) hk2 HV2 HM
          case hstop =>
            rintro c V lx ⟨rfl, rfl⟩ h
            obtain ⟨D, hD⟩ : ∃ D, w3.heap.size = D := ⟨_, rfl⟩
            rw [hD] at h ⊢
            have HK := Lib.hid h
            simp only [marks1, List.nil_append, List.cons_append] at HK
            clear h hD
            have HNE : Hid (¬ ∀ i, i < ys.length → (ys.map ME.plain)[i]? = (gs.map ME.plain)[i]?) := HK.out.fact 5 rfl
            have HM : Hid (Led [] w V (ssL c2 b3 b5 false (D :: Ds))) := Led.addMark (l := [box b3 30 #[.pointer (some ⟨c2, 0, none⟩)], box b5 4 #[.bool false]]) (HK.out.sel [0, 1, 6, 2] rfl (by decide))
            have HV2 : Hid (false = true ↔ UpTo es1 es2 fs1 fs2 (k + 1)) := by
              refine ⟨fun h => (by cases h), fun h => ?_⟩
              refine (HNE.out fun i hi => ?_).elim
              have h2 := h.2 k (by omega) i (by rw [HES.out, ← HYL.out]; exact hi)
              rw [HES.out, HGS.out, ← HPY.out] at h2
              exact h2
            clear HK HNE
            refine wpIn_wide.2 ?_
            go_wp2_with fail
            refine noGoto_normal ?_
            dsimp only [Exit.inBlock, Exit.then]
            go_wp2_with fail
            exact ss_close (Ds := D :: Ds) (by kernel_rfl) hk2 HV2 HM
          case hround =>
            intro j x W o0 hj hxj h
            obtain ⟨D, hD⟩ : ∃ D, w3.heap.size = D := ⟨_, rfl⟩
            rw [hD] at h ⊢
            have HK := Lib.hid h
            have HXJ := Lib.hid hxj
            clear h hxj hD
            rw [ent_eq]
            gi_wp2
            refine ⟨_, HK.out.alloc _ _, fun W2 o h2 => ?_⟩
            obtain ⟨be, hbe⟩ : ∃ b, W.heap.size = b := ⟨_, rfl⟩
            rw [hbe] at h2 ⊢
            have HK2 := Lib.hid h2
            simp only [srR, marks, List.nil_append, List.cons_append] at HK2
            clear hbe h2 HK
            have HFa : Hid (∀ i, i < j → (ys.map ME.plain)[i]? = (gs.map ME.plain)[i]?) := HK2.out.fact 5 rfl
            have HVX : Hid (x.v.In W2) := HK2.out.valsIn 6 rfl _ (by simp)
            have HXN : Hid (x.v.nodes ≤ 256) := by
              have h := HXJ.out
              rw [List.getElem?_map, Option.map_eq_some_iff] at h
              obtain ⟨f, hf, hfy⟩ := h
              unfold Hid
              rw [plain_nodes_eq hfy]
              exact HYN.out f (List.mem_of_getElem? hf)
            have HX1 : Hid (EntAt W2 be 0 x) := by obtain ⟨q0, q1, q2, q3, q4, q5, q6, _⟩ := HK2.out.c7 9 rfl; exact ⟨q0, q1, q2, q3, q4, q5, q6⟩
            obtain ⟨_, _, _, _, _, _, _, _, zx, _, _⟩ := HK2.out.c7 9 rfl
            obtain ⟨n0, nf, zn, _, _⟩ := HK2.out.c1 0 rfl
            obtain ⟨s0, sf, zs, _, _⟩ := HK2.out.c1 4 rfl
            have HLK := Lib.hid (HTU.out.2.2.1 W2 HK2.out.tch (j : Int))
            gi_wp2_with fail
            refine ⟨trivial, rfl, ?_⟩
            refine (callsIn_wide.2 HLK.out).mono ?_
            rintro e W3 ⟨y, cc, rfl, hR, hyin, _, ht⟩
            have HK3 := Lib.hid (HK2.out.touch ht)
            have HT3 := Lib.hid ht
            have HRR := Lib.hid hR
            have HYI := Lib.hid hyin
            clear ht hR hyin HLK HK2 n0 nf zn s0 sf zs zx
            simp only [ent_eq]
            obtain ⟨x0, x1, x2, x3, x4, x5, x6⟩ := HX1.out.touch HT3.out
            obtain ⟨_, _, _, _, _, _, _, _, zx, _, _⟩ := HK3.out.c7 9 rfl
            simp only [Nat.zero_add] at x1 x2 x3 x4 x5 x6
            obtain ⟨v0, vf, zv, _, _⟩ := HK3.out.c1 1 rfl
            have hne : b5 ≠ W3.heap.size := by omega
            have hne' := Ne.symm hne
            have zv1 : b5 < W3.heap.size + 1 := by omega
            cases cc with
            | false =>
              have HNM : Hid (¬ ∀ i, i < ys.length → (ys.map ME.plain)[i]? = (gs.map ME.plain)[i]?) := by
                intro hall
                have h1 := hall j hj
                rw [HXJ.out] at h1
                rcases HRR.out with ⟨hc, _⟩ | ⟨_, hn, _⟩
                · cases hc
                · have := (List.getElem?_eq_some_iff.1 h1.symm).1
                  exact hn ⟨by omega, by omega⟩
              have HS := Lib.hid ((HK3.out.set 1 rfl 0 (.bool false)).alloc 42 #[.int .i64 y.sync, .int .i64 y.thread, .int .i64 y.branch, .int .i64 y.flag, .int .i64 y.v.kind, .int .i64 y.v.num, .slice y.v.addr y.v.parts.length y.v.cap])
              simp only [List.nil_append, List.cons_append, List.set_cons_succ, List.set_cons_zero, List.setIfInBounds_toArray] at HS
              gi_wp2
              refine ⟨trivial, ?_⟩
              gi_wp2
              exact ⟨_, [], ⟨rfl, rfl⟩, (HS.out.setFact 5 rfl (q := ¬ ∀ i, i < ys.length → (ys.map ME.plain)[i]? = (gs.map ME.plain)[i]?) HNM.out).sel [0, 1, 2, 3, 4, 5, 7, 8] rfl (by decide)⟩
            | true =>
              have HP : Hid ((gs.map ME.plain)[j]? = some y.plain) := by
                rcases HRR.out with ⟨_, _, h⟩ | ⟨hc, _⟩
                · simpa [Hid] using h
                · cases hc
              have HYNN : Hid (y.v.nodes ≤ 256) := by
                have h := HP.out
                rw [List.getElem?_map, Option.map_eq_some_iff] at h
                obtain ⟨f, hf, hfy⟩ := h
                unfold Hid
                rw [plain_nodes_eq hfy]
                exact HTU.out.2.2.2.2.1 f (List.mem_of_getElem? hf)
              have HSE := Lib.hid (fun W (hW : Touch [] W3 W) => SameEntry_q x y W ((HVX.out.touch0 HT3.out).touch0 hW) (HYI.out.touch0 hW))
              simp only [ent_eq] at HSE
              gi_wp2_with fail
              refine ⟨trivial, rfl, ?_⟩
              refine (callsIn_wide.2 (HSE.out _ ((Touch.refl [] _).alloc _))).mono ?_
              rintro e W4 ⟨c, rfl, hc, ht⟩
              have HK4 := Lib.hid ((HK3.out.alloc 42 #[.int .i64 y.sync, .int .i64 y.thread, .int .i64 y.branch, .int .i64 y.flag, .int .i64 y.v.kind, .int .i64 y.v.num, .slice y.v.addr y.v.parts.length y.v.cap]).touch ht)
              simp only [List.nil_append, List.cons_append] at HK4
              have HC : Hid (c = true ↔ x.plain = y.plain) := hc.trans ⟨fun h => h.2.2, fun h => ⟨HXN.out, HYNN.out, h⟩⟩
              clear ht hc HK3 HSE x0 x1 x2 x3 x4 x5 x6 zx v0 vf zv zv1 hne hne'
              obtain ⟨v0, vf, zv, _, _⟩ := HK4.out.c1 1 rfl
              cases c with
              | false =>
                have HNM : Hid (¬ ∀ i, i < ys.length → (ys.map ME.plain)[i]? = (gs.map ME.plain)[i]?) := by
                  intro hall
                  have h1 := hall j hj
                  rw [HXJ.out, HP.out] at h1
                  injection h1 with h1
                  have := HC.out.2 h1
                  cases this
                gi_wp2
                exact ⟨_, [], ⟨rfl, rfl⟩, ((HK4.out.set 1 rfl 0 (.bool false)).setFact 5 rfl (q := ¬ ∀ i, i < ys.length → (ys.map ME.plain)[i]? = (gs.map ME.plain)[i]?) HNM.out).sel [0, 1, 2, 3, 4, 5, 7, 8] rfl (by decide)⟩
              | true =>
                have HFB : ∀ i, i < j + 1 → (ys.map ME.plain)[i]? = (gs.map ME.plain)[i]? := by
                  intro i hi
                  by_cases hij : i = j
                  · subst hij; rw [HXJ.out, HP.out, HC.out.1 rfl]
                  · exact HFa.out i (by omega)
                gi_wp2
                exact ⟨[], (HK4.out.setFact 5 rfl (q := ∀ i, i < j + 1 → (ys.map ME.plain)[i]? = (gs.map ME.plain)[i]?) HFB).sel [0, 1, 2, 3, 4, 5, 7, 8] rfl (by decide)⟩
        · have hk2' : ¬ (k : Int) < 2 := by omega
          obtain rfl : k = 2 := by omega
          have HVV : Hid (v = true ↔ es1.map ME.plain = fs1.map ME.plain ∧ es2.map ME.plain = fs2.map ME.plain) := by
            refine HV.out.trans ⟨fun h => ⟨plains_eq14 (by simpa using h.1.1) (fun i hi => h.2 0 (by omega) i (by simpa [ofT] using hi)), plains_eq14 (by simpa using h.1.2) (fun i hi => h.2 1 (by omega) i (by simpa [ofT] using hi))⟩, fun h => ⟨⟨by simpa using congrArg List.length h.1, by simpa using congrArg List.length h.2⟩, fun j hj i hi => ?_⟩⟩
            have : j = 0 ∨ j = 1 := by omega
            rcases this with rfl | rfl
            · simp only [ofT, if_pos]; rw [h.1]
            · simp only [ofT]; rw [if_neg (by decide), if_neg (by decide), h.2]
          simp only [ssL] at HL
          obtain ⟨y0, fy, hy3, _, _⟩ := HL.out.c1 1 rfl
          obtain ⟨hnd, hat⟩ := HL.out.marksAt 2 rfl
          have HND := Lib.hid hnd
          have HAT := Lib.hid hat
          clear hnd hat
          go_wp2
          unfold owedS
          exact leave_marks (v := .bool v) Ds _ HAT.out HND.out (by simp [shutAll, results, Tryd.results27, go_sem]) ⟨v, rfl, HVV.out, (HL.out.shutM 2 rfl).tch⟩
end Go.Proofs.YtihmbgdkllmkaaaDoor

/-
  Layer 13: Same of two queues (queue.go), and of the reference's (betrothalref13/ref.go).
-/
namespace Go.Proofs.YtihmbgdkllmkaaaDoor
open Go.RowKit Go.Shelf
set_option maxRecDepth 100000
set_option linter.unusedVariables false
set_option linter.unusedSimpArgs false
attribute [local go_sem] Oper.semAt_some

theorem take_succ_eq {l m : List PE} {k : Nat} (hk : k < l.length) (hm : k < m.length) (h : l.take k = m.take k) : l.take (k + 1) = m.take (k + 1) ↔ l[k] = m[k] := by
  have e1 : l.take (k + 1) = l.take k ++ [l[k]] := by simp
  have e2 : m.take (k + 1) = m.take k ++ [m[k]] := by simp
  rw [e1, e2, h, List.append_cancel_left_eq, List.cons.injEq]
  exact and_iff_left rfl
set_option maxHeartbeats 4000000 in
theorem Same_ref13 (w : World) (a b : Option Addr) (ca cb : Nat) (rs ss : List ME) (ha : EntsAt w a rs) (hb : EntsAt w b ss) (hr : ∀ r ∈ rs, r.v.In w ∧ r.v.nodes ≤ 256) (hs : ∀ r ∈ ss, r.v.In w ∧ r.v.nodes ≤ 256) (hlr : rs.length ≤ 4096) (hls : ss.length ≤ 4096) :
    Calls Tryd.prog 63 #[.agg #[.slice a rs.length ca], .agg #[.slice b ss.length cb]] w (Tells (rs.map ME.plain = ss.map ME.plain) w) := by
  have HA := Lib.hid (fun W (hW : Touch [] w W) => ha.touch hW)
  have HB := Lib.hid (fun W (hW : Touch [] w W) => hb.touch hW)
  have HR := Lib.hid (fun r (h : r ∈ rs) W (hW : Touch [] w W) => (And.intro ((hr r h).1.touch0 hW) (hr r h).2 : r.v.In W ∧ r.v.nodes ≤ 256))
  have HS := Lib.hid (fun r (h : r ∈ ss) W (hW : Touch [] w W) => (And.intro ((hs r h).1.touch0 hW) (hs r h).2 : r.v.In W ∧ r.v.nodes ≤ 256))
  clear ha hb hr hs
  by_cases hll : rs.length = ss.length
  · have HLL := Lib.hid hll
    clear hll
    rw [show ss.length = rs.length from HLL.out.symm]
    go_enter Tryd.func63, Tryd.ntmps63
    go_wp2_with fail
    refine wp_name ?_
    intro w1 hw1
    have HL1 := Lib.hid ((Led.nil' w).al2 hw1)
    simp only [List.nil_append, List.cons_append] at HL1
    obtain ⟨b3, hb3⟩ : ∃ b, w.heap.size + 1 = b := ⟨_, rfl⟩
    rw [hb3] at HL1 ⊢
    obtain ⟨b2, hb2⟩ : ∃ b, w.heap.size = b := ⟨_, rfl⟩
    rw [hb2] at HL1 ⊢
    clear hw1 hb3 hb2
    go_loopw [5] (fun i wr => ∃ j : Nat, i = .int .i64 (j : Int) ∧ j ≤ rs.length ∧ Hid ((rs.map ME.plain).take j = (ss.map ME.plain).take j) ∧ Hid (Led [] w wr [box b2 58 #[.slice a rs.length ca], box b3 58 #[.slice b rs.length cb]])) (fun i _ => rs.length - (intOf i).toNat)
    case atStart => exact ⟨0, rfl, Nat.zero_le _, by unfold Hid; simp, HL1⟩
    case round =>
      obtain ⟨j, rfl, hj, HD, HK⟩ := hrel
      clear HL1
      have hj0 : (0 : Int) ≤ (j : Int) := by omega
      obtain ⟨v0, _, hl2, _, _⟩ := HK.out.c1 0 rfl
      obtain ⟨u0, _, hl3, _, _⟩ := HK.out.c1 1 rfl
      by_cases hjl : j < rs.length
      · have hjl' : (j : Int) < (rs.length : Int) := by omega
        have hjs : j < ss.length := by rw [← HLL.out]; exact hjl
        obtain ⟨ba, oa, rfl, hba, p0, p1, p2, p3, p4, p5, p6⟩ := HA.out wr HK.out.tch j hjl
        obtain ⟨bb, ob, rfl, hbb, q0, q1, q2, q3, q4, q5, q6⟩ := HB.out wr HK.out.tch j hjs
        have HXI := Lib.hid (HR.out _ (List.getElem_mem hjl) wr HK.out.tch)
        have HYI := Lib.hid (HS.out _ (List.getElem_mem hjs) wr HK.out.tch)
        have HTS := Lib.hid (take_succ_eq (by simpa using hjl) (by simpa using hjs) HD.out)
        simp only [List.getElem_map] at HTS
        have HEL : Hid (rs.map ME.plain = ss.map ME.plain → rs[j].plain = ss[j].plain) := fun h => HTS.out.1 (by rw [h])
        generalize rs[j] = x at p0 p1 p2 p3 p4 p5 p6 HXI HTS HEL
        generalize ss[j] = y at q0 q1 q2 q3 q4 q5 q6 HYI HTS HEL
        have HSE := Lib.hid (SameEntry_ref x y wr.drew (HXI.out.1.touch0 (Touch.refl [] wr).drew) (HYI.out.1.touch0 (Touch.refl [] wr).drew) (by have := HXI.out.2; omega) (by have := HYI.out.2; omega))
        have HPX : Hid (∀ W, Touch [] wr W → EntAt W ba (oa + j * 7) x) := by
          have h : EntAt wr ba (oa + j * 7) x := ⟨p0, p1, p2, p3, p4, p5, p6⟩
          exact fun W hW => h.touch hW
        have HPY : Hid (∀ W, Touch [] wr W → EntAt W bb (ob + j * 7) y) := by
          have h : EntAt wr bb (ob + j * 7) y := ⟨q0, q1, q2, q3, q4, q5, q6⟩
          exact fun W hW => h.touch hW
        simp only [ent_eq] at HSE
        go_wp2_with fail
        go_region_held3 (fun w' => (w'.cell? ⟨b2, 0, none⟩ = some (.slice (some ⟨ba, oa, none⟩) rs.length ca) ∧ w'.cell? ⟨b3, 0, none⟩ = some (.slice (some ⟨bb, ob, none⟩) rs.length cb)) ∧
          (w'.cell? ⟨ba, oa + j * 7, none⟩ = some (.int .i64 x.sync) ∧ w'.cell? ⟨ba, oa + j * 7 + 1, none⟩ = some (.int .i64 x.thread) ∧ w'.cell? ⟨ba, oa + j * 7 + 2, none⟩ = some (.int .i64 x.branch) ∧ w'.cell? ⟨ba, oa + j * 7 + 3, none⟩ = some (.int .i64 x.flag) ∧ w'.cell? ⟨ba, oa + j * 7 + 4, none⟩ = some (.int .i64 x.v.kind) ∧ w'.cell? ⟨ba, oa + j * 7 + 5, none⟩ = some (.int .i64 x.v.num) ∧ w'.cell? ⟨ba, oa + j * 7 + 6, none⟩ = some (.slice x.v.addr x.v.parts.length x.v.cap)) ∧
          (w'.cell? ⟨bb, ob + j * 7, none⟩ = some (.int .i64 y.sync) ∧ w'.cell? ⟨bb, ob + j * 7 + 1, none⟩ = some (.int .i64 y.thread) ∧ w'.cell? ⟨bb, ob + j * 7 + 2, none⟩ = some (.int .i64 y.branch) ∧ w'.cell? ⟨bb, ob + j * 7 + 3, none⟩ = some (.int .i64 y.flag) ∧ w'.cell? ⟨bb, ob + j * 7 + 4, none⟩ = some (.int .i64 y.v.kind) ∧ w'.cell? ⟨bb, ob + j * 7 + 5, none⟩ = some (.int .i64 y.v.num) ∧ w'.cell? ⟨bb, ob + j * 7 + 6, none⟩ = some (.slice y.v.addr y.v.parts.length y.v.cap))) (go_keep) (first
          | (go_at_call 52; refine HSE.out.mono ?_; rintro e w2 ⟨cc, rfl, hcc, ht⟩; have HT2 := Lib.hid ((Touch.refl [] wr).drew.trans' ht); have HK2 := Lib.hid (HK.out.touch HT2.out); have HCC := Lib.hid hcc; clear hcc ht v0 hl2 u0 hl3 p0 p1 p2 p3 p4 p5 p6 q0 q1 q2 q3 q4 q5 q6; obtain ⟨v0, _, hl2, _, _⟩ := HK2.out.c1 0 rfl; obtain ⟨u0, _, hl3, _, _⟩ := HK2.out.c1 1 rfl; obtain ⟨p0, p1, p2, p3, p4, p5, p6⟩ := HPX.out _ HT2.out; obtain ⟨q0, q1, q2, q3, q4, q5, q6⟩ := HPY.out _ HT2.out))
        all_goals
          rename_i hHeld
          clear hHeld v0 hl2 u0 hl3 p0 p1 p2 p3 p4 p5 p6 q0 q1 q2 q3 q4 q5 q6 hba hbb
          cases cc with
          | false =>
            go_wp2
            go_ret
            exact Tells.no (fun h => by
              have h2 := HCC.out.2 ⟨HXI.out.2, HYI.out.2, HEL.out h⟩
              cases h2) HK2.out.tch
          | true =>
            have HD2 := Lib.hid (HTS.out.2 (HCC.out.1 rfl).2.2)
            go_wp2
            go_roundw
            case rel => exact ⟨j + 1, by go_num, hjl, HD2, HK2⟩
            case measure => simp [intOf]; omega
      · have hjl' : ¬ (j : Int) < (rs.length : Int) := by omega
        obtain rfl : j = rs.length := by omega
        go_wp2
        go_ret
        refine Tells.yes ?_ HK.out.tch
        have h := HD.out
        rwa [List.take_of_length_le (by simp), List.take_of_length_le (by simp [HLL.out])] at h
  · have hne : ((rs.length : Int) == (ss.length : Int)) = false := by simp; omega
    have hne2 : ¬ (rs.length : Int) = (ss.length : Int) := by omega
    have HNL := Lib.hid hll
    clear hll
    go_enter Tryd.func63, Tryd.ntmps63
    go_wp2
    go_ret
    exact Tells.no (fun h => HNL.out (by have := congrArg List.length h; simpa using this)) (((Touch.refl [] w).alloc _).alloc _)
/-- What lies there between two rounds. -/
def sqR (b3 g2 b5 bx : Nat) (v : Value) (ys es fs : List ME) (k : Nat) : List Thing :=
  [box b3 101 #[.pointer (some ⟨g2, 0, none⟩)], box b5 4 #[.bool true], allT bx v ys, fact ((es.map ME.plain).take k = (fs.map ME.plain).take k)]
end Go.Proofs.YtihmbgdkllmkaaaDoor

/-
  The reference of layer 14 (betrothalref14/ref.go): Same.
-/
namespace Go.Proofs.YtihmbgdkllmkaaaDoor
open Go.RowKit Go.Shelf
set_option maxRecDepth 100000
set_option linter.unusedVariables false
set_option linter.unusedSimpArgs false

set_option maxHeartbeats 2000000 in
theorem Same_ref14 (w : World) (cell : Int) (a1 a2 b1 b2 : Option Addr) (c1 c2 d1 d2 : Nat) (rs1 rs2 ss1 ss2 : List ME) (h1 : EntsAt w a1 rs1) (h2 : EntsAt w a2 rs2) (k1 : EntsAt w b1 ss1) (k2 : EntsAt w b2 ss2) (i1 : ∀ r ∈ rs1, r.v.In w ∧ r.v.nodes ≤ 256) (i2 : ∀ r ∈ rs2, r.v.In w ∧ r.v.nodes ≤ 256) (j1 : ∀ r ∈ ss1, r.v.In w ∧ r.v.nodes ≤ 256) (j2 : ∀ r ∈ ss2, r.v.In w ∧ r.v.nodes ≤ 256) (l1 : rs1.length ≤ 4096) (l2 : rs2.length ≤ 4096) (m1 : ss1.length ≤ 4096) (m2 : ss2.length ≤ 4096) :
    Calls Tryd.prog 29 #[rc14 cell a1 rs1.length c1 a2 rs2.length c2, rc14 cell b1 ss1.length d1 b2 ss2.length d2] w (Tells (rs1.map ME.plain = ss1.map ME.plain ∧ rs2.map ME.plain = ss2.map ME.plain) w) := by
  have HC1 := Lib.hid (fun W (hW : Touch [] w W) => Same_ref13 W a1 b1 c1 d1 rs1 ss1 (h1.touch hW) (k1.touch hW) (fun r h => ⟨(i1 r h).1.touch0 hW, (i1 r h).2⟩) (fun r h => ⟨(j1 r h).1.touch0 hW, (j1 r h).2⟩) l1 m1)
  have HC2 := Lib.hid (fun W (hW : Touch [] w W) => Same_ref13 W a2 b2 c2 d2 rs2 ss2 (h2.touch hW) (k2.touch hW) (fun r h => ⟨(i2 r h).1.touch0 hW, (i2 r h).2⟩) (fun r h => ⟨(j2 r h).1.touch0 hW, (j2 r h).2⟩) l2 m2)
  clear h1 h2 k1 k2 i1 i2 j1 j2
  rw [rc14_eq, rc14_eq]
  go_enter Tryd.func29, Tryd.ntmps29
  go_upto_region 1 with fail
  refine wp_name ?_
  intro w1 hw1
  have HL1 := Lib.hid ((Led.nil' w).al2 hw1)
  simp only [List.nil_append, List.cons_append] at HL1
  obtain ⟨b3, hb3⟩ : ∃ b, w.heap.size + 1 = b := ⟨_, rfl⟩
  rw [hb3] at HL1 ⊢
  obtain ⟨b2', hb2⟩ : ∃ b, w.heap.size = b := ⟨_, rfl⟩
  rw [hb2] at HL1 ⊢
  clear hw1 hb3 hb2
  obtain ⟨x0, x1, x2, _, _, _, hx, _, _⟩ := HL1.out.c3 0 rfl
  obtain ⟨y0, y1, y2, _, _, _, hy, _, _⟩ := HL1.out.c3 1 rfl
  go_wp2_with fail
  refine (HC1.out _ HL1.out.tch).mono ?_
  rintro e w2 ⟨c, rfl, hc, ht⟩
  have HL2 := Lib.hid (HL1.out.touch ht)
  have HT := Lib.hid hc
  clear ht hc HL1 x0 x1 x2 hx y0 y1 y2 hy
  obtain ⟨x0, x1, x2, _, _, _, hx, _, _⟩ := HL2.out.c3 0 rfl
  obtain ⟨y0, y1, y2, _, _, _, hy, _, _⟩ := HL2.out.c3 1 rfl
  cases c with
  | false =>
    go_wp2
    go_ret
    exact Tells.no (fun h => by have := HT.out.2 h.1; cases this) HL2.out.tch
  | true =>
    go_wp2_with fail
    refine (HC2.out _ HL2.out.tch).mono ?_
    rintro e w3 ⟨c', rfl, hc, ht⟩
    have HL3 := Lib.hid (HL2.out.touch ht)
    have HT2 := Lib.hid hc
    clear ht hc
    go_wp2
    go_ret
    exact ⟨c', rfl, ⟨fun h => ⟨HT.out.1 trivial, HT2.out.1 h⟩, fun h => HT2.out.2 h.2⟩, HL3.out.tch⟩
end Go.Proofs.YtihmbgdkllmkaaaDoor

/-
  Arguments that are values (trees) or entries, opened: MT with In, its parts no more than the bulk of what was read.
-/
namespace Go.Proofs.YtihmbgdkllmkaaaDoor
open Go.ChangeShapes Go.WideShapes Go.Deep Go.RowKit
set_option linter.unusedVariables false
set_option maxRecDepth 100000

theorem list_of_forall {α : Type} {p : Nat → α → Prop} : ∀ (n : Nat), (∀ i, i < n → ∃ x, p i x) → ∃ l : List α, l.length = n ∧ ∀ i (hi : i < l.length), p i l[i] := by
  intro n
  induction n with
  | zero => intro _; exact ⟨[], rfl, fun i hi => by simp at hi⟩
  | succ n ih =>
    intro h
    obtain ⟨l, hl, hp⟩ := ih (fun i hi => h i (by omega))
    obtain ⟨x, hx⟩ := h n (by omega)
    refine ⟨l ++ [x], by simp [hl], fun i hi => ?_⟩
    by_cases hin : i < l.length
    · rw [List.getElem_append_left hin]; exact hp i hin
    · have : i = n := by simp at hi; omega
      subst this
      rw [List.getElem_append_right (by omega)]
      simpa using hx
theorem add_add' (a : Addr) (i j : Nat) : (a.add i).add j = a.add (i + j) := by
  unfold Addr.add
  by_cases hi : i = 0 <;> by_cases hj : j = 0 <;> simp [hi, hj, Nat.add_assoc]
theorem list3 {α : Type} {l : List α} (h : l.length = 3) : ∃ a b c, l = [a, b, c] := by
  match l, h with
  | [a, b, c], _ => exact ⟨a, b, c, rfl⟩
theorem nodesAll_le {H : Type} (l : List MT) (ds : List (DataW H)) (hl : l.length = ds.length) (h : ∀ i (hi : i < l.length) (hd : i < ds.length), l[i].nodes ≤ Rows.uptoBulk ds[i]) : MT.nodesAll l ≤ Rows.uptoBulkAll ds := by
  induction l generalizing ds with
  | nil => simp [MT.nodesAll]
  | cons t r ih =>
    match ds, hl with
    | d :: ds, hl =>
      simp only [MT.nodesAll, Rows.uptoBulkAll]
      have h0 := h 0 (by simp) (by simp)
      have h1 := ih ds (by simpa using hl) (fun i hi hd => h (i + 1) (by simpa using hi) (by simpa using hd))
      simp only [List.getElem_cons_zero] at h0
      omega
theorem bulk_mem {H : Type} {d : DataW H} {l : List (DataW H)} (h : d ∈ l) : Rows.uptoBulk d ≤ Rows.uptoBulkAll l := by
  induction l with
  | nil => cases h
  | cons x r ih =>
    simp only [Rows.uptoBulkAll]
    rcases List.mem_cons.1 h with rfl | h
    · omega
    · have := ih h; omega
/-- Its numbers are words. -/
def ME.Fits (x : ME) : Prop := (-9223372036854775808 ≤ x.sync ∧ x.sync ≤ 9223372036854775807) ∧ (-9223372036854775808 ≤ x.thread ∧ x.thread ≤ 9223372036854775807) ∧ (-9223372036854775808 ≤ x.branch ∧ x.branch ≤ 9223372036854775807) ∧ (-9223372036854775808 ≤ x.flag ∧ x.flag ≤ 9223372036854775807)
section
variable {H : Type} {enc : TypeId × Value → H} {w : World} {base : Nat} {spare : Nat → Bool} {held : Bool}
theorem cells_val : Tryd.prog.cellsOf 40 = 3 := by kernel_rfl
theorem cells_int : Tryd.prog.cellsOf 3 = 1 := by kernel_rfl
theorem cells_kind : Tryd.prog.cellsOf 37 = 1 := by kernel_rfl
theorem cells_i64 : Tryd.prog.cellsOf 2 = 1 := by kernel_rfl
theorem cells_vals : Tryd.prog.cellsOf 38 = 1 := by kernel_rfl
theorem cells_ent : Tryd.prog.cellsOf 42 = 7 := by kernel_rfl
theorem open_val_cells : ∀ (N : Nat) (d : DataW H), Rows.uptoBulk d ≤ N → ∀ (fuel : Nat) (cs : List Value) (p : List MemPlace), DataW.trod enc Tryd.prog w base spare held fuel 40 cs = some (d, p) → ∃ t : MT, cs = t.cells ∧ t.In w ∧ t.nodes ≤ Rows.uptoBulk d := by
  intro N
  induction N with
  | zero => intro d hd fuel cs p h; obtain ⟨xs, n, _, hx, _⟩ := DataW.trod_struct Tryd.underlying40 h; injection hx with hx _; subst hx; simp [Rows.uptoBulk] at hd
  | succ N ih =>
    intro d hd fuel cs p h
    obtain ⟨xs, n, _, hx, hl, hlen, hf⟩ := DataW.trod_struct Tryd.underlying40 h
    injection hx with hx _
    subst hx
    rw [cells_val] at hl
    obtain ⟨c0, c1, c2, rfl⟩ := list3 hl
    obtain ⟨x0, x1, x2, rfl⟩ := list3 hlen
    have f0 : DataW.trod enc Tryd.prog w base spare held n 37 (List.take (Tryd.prog.cellsOf 37) (List.drop 0 [c0, c1, c2])) = some x0 := hf 0 _ rfl
    have f1 : DataW.trod enc Tryd.prog w base spare held n 2 (List.take (Tryd.prog.cellsOf 2) (List.drop 1 [c0, c1, c2])) = some x1 := hf 1 _ rfl
    have f2 : DataW.trod enc Tryd.prog w base spare held n 38 (List.take (Tryd.prog.cellsOf 38) (List.drop 2 [c0, c1, c2])) = some x2 := hf 2 _ rfl
    rw [cells_kind] at f0
    rw [cells_i64] at f1
    rw [cells_vals] at f2
    simp only [List.drop_zero, List.drop_succ_cons, List.take_succ_cons, List.take_zero] at f0 f1 f2
    obtain ⟨z0, hz0, hx0, _⟩ := DataW.trod_int Tryd.underlying37 f0
    obtain ⟨z1, hz1, hx1, _⟩ := DataW.trod_int Tryd.underlying2 f1
    injection hz0 with hz0 _
    injection hz1 with hz1 _
    subst hz0 hz1 hx0 hx1
    simp only [List.map_cons, List.map_nil, Rows.uptoBulk, Rows.uptoBulkAll] at hd ⊢
    rcases open_slice Tryd.underlying38 f2 with ⟨hcs, hx2⟩ | ⟨a, len, cap, m, n', D, Pl, hcs, hb, hlc, hm, hmm, hx2, hi⟩
    · injection hcs with hcs _
      subst hcs
      exact ⟨.mk z0 z1 none 0 [], rfl, MT.in_mk (by simp) (fun i hi => by simp at hi) (by simp), by simp [MT.nodes, MT.nodesAll]⟩
    · injection hcs with hcs _
      subst hcs
      have hlm : len ≤ m := by rw [hmm]; split <;> omega
      subst hx2
      simp only [Rows.uptoBulk] at hd ⊢
      obtain ⟨l, hll, hp⟩ := list_of_forall (p := fun i (t : MT) => (∀ j, j < 3 → w.cell? ((a.add (i * 3)).add j) = t.cells[j]?) ∧ t.In w ∧ t.nodes ≤ Rows.uptoBulk (D i)) len (fun i hil => by
        obtain ⟨cs', hc, ht'⟩ := hi i (by omega)
        rw [cells_val] at hc
        obtain ⟨_, hcl, hat⟩ := World.cells?_some hc
        have hbi : Rows.uptoBulk (D i) ≤ Rows.uptoBulkAll ((List.range len).map D) := bulk_mem (List.mem_map.2 ⟨i, List.mem_range.2 hil, rfl⟩)
        obtain ⟨t, rfl, ht1, ht2⟩ := ih (D i) (by omega) _ _ _ ht'
        exact ⟨t, hat, ht1, ht2⟩)
      subst hll
      refine ⟨.mk z0 z1 (some a) cap l, rfl, MT.in_mk (by simp only [maxLen] at hm; omega) (fun i hil => ?_) (fun t ht => ?_), ?_⟩
      · obtain ⟨hat, _, _⟩ := hp i hil
        obtain ⟨b, o, sp⟩ := a
        have hsp : sp = none := by
          obtain ⟨hat0, _, _⟩ := hp 0 (by omega)
          have h00 := hat0 0 (by omega)
          rw [add_add'] at h00
          have h01 : w.cell? ((⟨b, o, sp⟩ : Addr).add 0) = some (.int .i64 (l[0]'(by omega)).kind) := by simp only [Nat.zero_mul, Nat.add_zero] at h00; exact h00
          simpa [Addr.add] using World.cell?_spot h01
        subst hsp
        have h0 := hat 0 (by omega)
        rw [add_add', Addr.add_lit] at h0
        refine ⟨b, o, rfl, World.block_lt_of_cell? w _ (u := .int .i64 l[i].kind) h0, fun j hj => ?_⟩
        have := hat j hj
        rw [add_add', Addr.add_lit, ← Nat.add_assoc] at this
        exact this
      · obtain ⟨i, hil, rfl⟩ := List.mem_iff_getElem.1 ht
        exact (hp i hil).2.1
      · have := nodesAll_le l ((List.range l.length).map D) (by simp) (fun i hil hd => by simp; exact (hp i hil).2.2)
        simp only [MT.nodes]
        omega
theorem list7 {α : Type} {l : List α} (h : l.length = 7) : ∃ a b c d e f g, l = [a, b, c, d, e, f, g] := by
  match l, h with
  | [a, b, c, d, e, f, g], _ => exact ⟨a, b, c, d, e, f, g, rfl⟩
theorem list5 {α : Type} {l : List α} (h : l.length = 5) : ∃ a b c d e, l = [a, b, c, d, e] := by
  match l, h with
  | [a, b, c, d, e], _ => exact ⟨a, b, c, d, e, rfl⟩
theorem open_ent_cells (fuel : Nat) (cs : List Value) (d : DataW H) (p : List MemPlace) (h : DataW.trod enc Tryd.prog w base spare held fuel 42 cs = some (d, p)) : ∃ x : ME, cs = x.cells ∧ x.v.In w ∧ x.v.nodes ≤ Rows.uptoBulk d ∧ x.Fits := by
  obtain ⟨xs, n, _, hx, hl, hlen, hf⟩ := DataW.trod_struct Tryd.underlying42 h
  injection hx with hx _
  subst hx
  rw [cells_ent] at hl
  obtain ⟨c0, c1, c2, c3, c4, c5, c6, rfl⟩ := list7 hl
  obtain ⟨x0, x1, x2, x3, x4, rfl⟩ := list5 hlen
  have f0 : DataW.trod enc Tryd.prog w base spare held n 3 (List.take (Tryd.prog.cellsOf 3) (List.drop 0 [c0, c1, c2, c3, c4, c5, c6])) = some x0 := hf 0 _ rfl
  have f1 : DataW.trod enc Tryd.prog w base spare held n 3 (List.take (Tryd.prog.cellsOf 3) (List.drop 1 [c0, c1, c2, c3, c4, c5, c6])) = some x1 := hf 1 _ rfl
  have f2 : DataW.trod enc Tryd.prog w base spare held n 3 (List.take (Tryd.prog.cellsOf 3) (List.drop 2 [c0, c1, c2, c3, c4, c5, c6])) = some x2 := hf 2 _ rfl
  have f3 : DataW.trod enc Tryd.prog w base spare held n 3 (List.take (Tryd.prog.cellsOf 3) (List.drop 3 [c0, c1, c2, c3, c4, c5, c6])) = some x3 := hf 3 _ rfl
  have f4 : DataW.trod enc Tryd.prog w base spare held n 40 (List.take (Tryd.prog.cellsOf 40) (List.drop 4 [c0, c1, c2, c3, c4, c5, c6])) = some x4 := hf 4 _ rfl
  rw [cells_int] at f0 f1 f2 f3
  rw [cells_val] at f4
  simp only [List.drop_zero, List.drop_succ_cons, List.take_succ_cons, List.take_zero] at f0 f1 f2 f3 f4
  obtain ⟨z0, hz0, hx0, g0⟩ := DataW.trod_int Tryd.underlying3 f0
  obtain ⟨z1, hz1, hx1, g1⟩ := DataW.trod_int Tryd.underlying3 f1
  obtain ⟨z2, hz2, hx2, g2⟩ := DataW.trod_int Tryd.underlying3 f2
  obtain ⟨z3, hz3, hx3, g3⟩ := DataW.trod_int Tryd.underlying3 f3
  injection hz0 with hz0 _
  injection hz1 with hz1 _
  injection hz2 with hz2 _
  injection hz3 with hz3 _
  subst hz0 hz1 hz2 hz3
  obtain ⟨x4, p4⟩ := x4
  obtain ⟨t, ht, hin, hno⟩ := open_val_cells _ x4 (Nat.le_refl _) _ _ _ f4
  have ht' : c4 = .int .i64 t.kind ∧ c5 = .int .i64 t.num ∧ c6 = t.sl := by simpa [MT.cells] using ht
  obtain ⟨rfl, rfl, rfl⟩ := ht'
  refine ⟨⟨z0, z1, z2, z3, t⟩, rfl, hin, ?_, bounds_i64 g0, bounds_i64 g1, bounds_i64 g2, bounds_i64 g3⟩
  simp only [List.map_cons, List.map_nil, Rows.uptoBulk, Rows.uptoBulkAll]
  show t.nodes ≤ _
  omega
/-- An entry by value. -/
theorem open_ent {r : Reach} {b0 : Nat} {v : Value} {d : DataW H} {p : List MemPlace} (hv : Value.okWide Tryd.prog w r b0 42 v) (h : DataW.Trod enc Tryd.prog w base spare held 42 v d p) : ∃ x : ME, v = x.val ∧ x.v.In w ∧ x.v.nodes ≤ Rows.uptoBulk d ∧ x.Fits := by
  obtain ⟨cs, rfl, hsz⟩ := okWide_struct Tryd.underlying42 hv
  obtain ⟨fuel, hf⟩ := h
  obtain ⟨x, hx, h1, h2, h3⟩ := open_ent_cells fuel _ d p hf
  refine ⟨x, ?_, h1, h2, h3⟩
  have : cs = x.cells.toArray := by
    apply Array.ext'
    simpa [Value.cells] using hx
  rw [this]
  rfl
/-- Entries in a slice. -/
theorem open_ents {fuel : Nat} {c : Value} {d : DataW H} {p : List MemPlace} (h : DataW.trod enc Tryd.prog w base spare held fuel 56 [c] = some (d, p)) : ∃ (a : Option Addr) (cap : Nat) (l : List ME), c = .slice a l.length cap ∧ l.length ≤ maxLen ∧ EntsAt w a l ∧ ∀ x ∈ l, x.v.In w ∧ x.v.nodes ≤ Rows.uptoBulk d ∧ x.Fits := by
  rcases open_slice Tryd.underlying56 h with ⟨hcs, hx2⟩ | ⟨a, len, cap, m, n', D, Pl, hcs, hb, hlc, hm, hmm, hx2, hi⟩
  · injection hcs with hcs _
    subst hcs
    exact ⟨none, 0, [], rfl, by simp [maxLen], fun i hi => by simp at hi, by simp⟩
  · injection hcs with hcs _
    subst hcs
    have hlm : len ≤ m := by rw [hmm]; split <;> omega
    injection hx2 with hx2 _
    subst hx2
    obtain ⟨l, hll, hp⟩ := list_of_forall (p := fun i (t : ME) => (∀ j, j < 7 → w.cell? ((a.add (i * 7)).add j) = t.cells[j]?) ∧ t.v.In w ∧ t.v.nodes ≤ Rows.uptoBulk (D i) ∧ t.Fits) len (fun i hil => by
      obtain ⟨cs', hc, ht'⟩ := hi i (by omega)
      rw [cells_ent] at hc
      obtain ⟨_, hcl, hat⟩ := World.cells?_some hc
      obtain ⟨t, rfl, ht1, ht2, ht3⟩ := open_ent_cells _ _ _ _ ht'
      exact ⟨t, hat, ht1, ht2, ht3⟩)
    subst hll
    refine ⟨some a, cap, l, rfl, by omega, fun i hil => ?_, fun x hx => ?_⟩
    · obtain ⟨hat, _, _⟩ := hp i hil
      obtain ⟨b, o, sp⟩ := a
      have hsp : sp = none := by
        obtain ⟨hat0, _, _⟩ := hp 0 (by omega)
        have h00 := hat0 0 (by omega)
        rw [add_add'] at h00
        have h01 : w.cell? ((⟨b, o, sp⟩ : Addr).add 0) = some (.int .i64 (l[0]'(by omega)).sync) := by simp only [Nat.zero_mul, Nat.add_zero] at h00; exact h00
        simpa [Addr.add] using World.cell?_spot h01
      subst hsp
      have hc : ∀ j, j < 7 → w.cell? ⟨b, o + i * 7 + j, none⟩ = l[i].cells[j]? := fun j hj => by
        have := hat j hj
        rw [add_add', Addr.add_lit, ← Nat.add_assoc] at this
        exact this
      exact ⟨b, o, rfl, World.block_lt_of_cell? w _ (u := .int .i64 l[i].sync) (hc 0 (by omega)), hc 0 (by omega), hc 1 (by omega), hc 2 (by omega), hc 3 (by omega), hc 4 (by omega), hc 5 (by omega), hc 6 (by omega)⟩
    · obtain ⟨i, hil, rfl⟩ := List.mem_iff_getElem.1 hx
      obtain ⟨_, h1, h2, h3⟩ := hp i hil
      have hbi : Rows.uptoBulk (D i) ≤ Rows.uptoBulkAll ((List.range l.length).map D) := bulk_mem (List.mem_map.2 ⟨i, List.mem_range.2 hil, rfl⟩)
      refine ⟨h1, ?_, h3⟩
      simp only [Rows.uptoBulk]
      omega
end
end Go.Proofs.YtihmbgdkllmkaaaDoor

/-
  Arguments that are calls of law 14, opened: a slice of them, and two of them.
-/
namespace Go.Proofs.YtihmbgdkllmkaaaDoor
open Go.ChangeShapes Go.WideShapes Go.Deep Go.RowKit
set_option linter.unusedVariables false
set_option maxRecDepth 100000

theorem list8 {α : Type} {l : List α} (h : l.length = 8) : ∃ a b c d e f g i, l = [a, b, c, d, e, f, g, i] := by
  match l, h with
  | [a, b, c, d, e, f, g, i], _ => exact ⟨a, b, c, d, e, f, g, i, rfl⟩
theorem list2 {α : Type} {l : List α} (h : l.length = 2) : ∃ a b, l = [a, b] := by
  match l, h with
  | [a, b], _ => exact ⟨a, b, rfl⟩
theorem list10 {α : Type} {l : List α} (h : l.length = 10) : ∃ a b c d e f g i j k, l = [a, b, c, d, e, f, g, i, j, k] := by
  match l, h with
  | [a, b, c, d, e, f, g, i, j, k], _ => exact ⟨a, b, c, d, e, f, g, i, j, k, rfl⟩
theorem list4' {α : Type} {l : List α} (h : l.length = 4) : ∃ a b c d, l = [a, b, c, d] := by
  match l, h with
  | [a, b, c, d], _ => exact ⟨a, b, c, d, rfl⟩
theorem list20 {α : Type} {l : List α} (h : l.length = 20) : ∃ a0 a1 a2 a3 a4 a5 a6 a7 a8 a9 b0 b1 b2 b3 b4 b5 b6 b7 b8 b9, l = [a0, a1, a2, a3, a4, a5, a6, a7, a8, a9, b0, b1, b2, b3, b4, b5, b6, b7, b8, b9] := by
  match l, h with
  | [a0, a1, a2, a3, a4, a5, a6, a7, a8, a9, b0, b1, b2, b3, b4, b5, b6, b7, b8, b9], _ => exact ⟨a0, a1, a2, a3, a4, a5, a6, a7, a8, a9, b0, b1, b2, b3, b4, b5, b6, b7, b8, b9, rfl⟩
/-- Two calls, as one value. -/
def twoCells14 (x y : C4) : Array Value := (x.cells ++ y.cells).toArray
def twoVal14 (x y : C4) : Value := .agg (twoCells14 x y)
section
variable {H : Type} {enc : TypeId × Value → H} {w : World} {base : Nat} {spare : Nat → Bool} {held : Bool}
theorem cells_side : Tryd.prog.cellsOf 45 = 1 := by kernel_rfl
theorem cells_act14 : Tryd.prog.cellsOf 68 = 10 := by kernel_rfl
theorem cells_two14 : Tryd.prog.cellsOf 87 = 20 := by kernel_rfl
/-- What an opened call is. -/
def C4.Opened (x : C4) (w : World) (N : Nat) : Prop := x.e.v.In w ∧ x.e.v.nodes ≤ N
theorem open_act14_cells (fuel : Nat) (cs : List Value) (d : DataW H) (p : List MemPlace) (h : DataW.trod enc Tryd.prog w base spare held fuel 68 cs = some (d, p)) : ∃ x : C4, cs = x.cells ∧ x.Opened w (Rows.uptoBulk d) := by
  obtain ⟨xs, n, _, hx, hl, hlen, hf⟩ := DataW.trod_struct Tryd.underlying68 h
  injection hx with hx _
  subst hx
  rw [cells_act14] at hl
  obtain ⟨c0, c1, c2, c3, c4, c5, c6, c7, c8, c9, rfl⟩ := list10 hl
  obtain ⟨x0, x1, x2, x3, rfl⟩ := list4' hlen
  have f0 : DataW.trod enc Tryd.prog w base spare held n 3 (List.take (Tryd.prog.cellsOf 3) (List.drop 0 [c0, c1, c2, c3, c4, c5, c6, c7, c8, c9])) = some x0 := hf 0 _ rfl
  have f1 : DataW.trod enc Tryd.prog w base spare held n 45 (List.take (Tryd.prog.cellsOf 45) (List.drop 1 [c0, c1, c2, c3, c4, c5, c6, c7, c8, c9])) = some x1 := hf 1 _ rfl
  have f2 : DataW.trod enc Tryd.prog w base spare held n 3 (List.take (Tryd.prog.cellsOf 3) (List.drop 2 [c0, c1, c2, c3, c4, c5, c6, c7, c8, c9])) = some x2 := hf 2 _ rfl
  have f3 : DataW.trod enc Tryd.prog w base spare held n 42 (List.take (Tryd.prog.cellsOf 42) (List.drop 3 [c0, c1, c2, c3, c4, c5, c6, c7, c8, c9])) = some x3 := hf 3 _ rfl
  rw [cells_int] at f0 f2
  rw [cells_side] at f1
  rw [cells_ent] at f3
  simp only [List.drop_zero, List.drop_succ_cons, List.take_succ_cons, List.take_zero] at f0 f1 f2 f3
  obtain ⟨z0, hz0, hx0, g0⟩ := DataW.trod_int Tryd.underlying3 f0
  obtain ⟨z1, hz1, hx1, g1⟩ := DataW.trod_int Tryd.underlying45 f1
  obtain ⟨z2, hz2, hx2, g2⟩ := DataW.trod_int Tryd.underlying3 f2
  injection hz0 with hz0 _
  injection hz1 with hz1 _
  injection hz2 with hz2 _
  subst hz0 hz1 hz2
  obtain ⟨x3, p3⟩ := x3
  obtain ⟨e, he, h1, h2, _⟩ := open_ent_cells _ _ _ _ f3
  refine ⟨⟨z0, z1, z2, e⟩, ?_, h1, ?_⟩
  · simp only [C4.cells]; rw [← he]
  · show e.v.nodes ≤ _
    simp only [List.map_cons, List.map_nil, Rows.uptoBulk, Rows.uptoBulkAll]
    omega
/-- One call. -/
theorem open_act14 {r : Reach} {b0 : Nat} {v : Value} {d : DataW H} {p : List MemPlace} (hv : Value.okWide Tryd.prog w r b0 68 v) (h : DataW.Trod enc Tryd.prog w base spare held 68 v d p) : ∃ x : C4, v = .agg x.cells.toArray ∧ x.Opened w (Rows.uptoBulk d) := by
  simp only [Value.okWide, Tryd.underlying68] at hv
  obtain ⟨cs, rfl, hsz, _⟩ := hv
  obtain ⟨fuel, hf⟩ := h
  obtain ⟨x, hx, hxo⟩ := open_act14_cells _ _ _ _ hf
  refine ⟨x, ?_, hxo⟩
  have h2 : cs.toList = x.cells := by simpa [Value.cells] using hx
  rw [← h2]
/-- Calls in a slice. -/
theorem open_acts14 {fuel : Nat} {c : Value} {d : DataW H} {p : List MemPlace} (h : DataW.trod enc Tryd.prog w base spare held fuel 50 [c] = some (d, p)) : ∃ (a : Option Addr) (cap : Nat) (l : List C4), c = .slice a l.length cap ∧ l.length ≤ maxLen ∧ C4sAt w a l ∧ ∀ x ∈ l, x.Opened w (Rows.uptoBulk d) := by
  rcases open_slice Tryd.underlying50 h with ⟨hcs, hx2⟩ | ⟨a, len, cap, m, n', D, Pl, hcs, hb, hlc, hm, hmm, hx2, hi⟩
  · injection hcs with hcs _
    subst hcs
    exact ⟨none, 0, [], rfl, by simp [maxLen], fun i hi => by simp at hi, by simp⟩
  · injection hcs with hcs _
    subst hcs
    have hlm : len ≤ m := by rw [hmm]; split <;> omega
    injection hx2 with hx2 _
    subst hx2
    obtain ⟨l, hll, hp⟩ := list_of_forall (p := fun i (t : C4) => (∀ j, j < 10 → w.cell? ((a.add (i * 10)).add j) = t.cells[j]?) ∧ t.Opened w (Rows.uptoBulk (D i))) len (fun i hil => by
      obtain ⟨cs', hc, ht'⟩ := hi i (by omega)
      rw [cells_act14] at hc
      obtain ⟨_, hcl, hat⟩ := World.cells?_some hc
      obtain ⟨t, rfl, ht1⟩ := open_act14_cells _ _ _ _ ht'
      exact ⟨t, hat, ht1⟩)
    subst hll
    refine ⟨some a, cap, l, rfl, by omega, fun i hil => ?_, fun x hx => ?_⟩
    · obtain ⟨hat, _⟩ := hp i hil
      obtain ⟨b, o, sp⟩ := a
      have hsp : sp = none := by
        obtain ⟨hat0, _⟩ := hp 0 (by omega)
        have h00 := hat0 0 (by omega)
        rw [add_add'] at h00
        have h01 : w.cell? ((⟨b, o, sp⟩ : Addr).add 0) = some (.int .i64 (l[0]'(by omega)).what) := by simp only [Nat.zero_mul, Nat.add_zero] at h00; exact h00
        simpa [Addr.add] using World.cell?_spot h01
      subst hsp
      have hc : ∀ j, j < 10 → w.cell? ⟨b, o + i * 10 + j, none⟩ = l[i].cells[j]? := fun j hj => by
        have := hat j hj
        rw [add_add', Addr.add_lit, ← Nat.add_assoc] at this
        exact this
      exact ⟨b, o, rfl, World.block_lt_of_cell? w _ (u := .int .i64 l[i].what) (hc 0 (by omega)), hc 0 (by omega), hc 1 (by omega), hc 2 (by omega), hc 3 (by omega), hc 4 (by omega), hc 5 (by omega), hc 6 (by omega), hc 7 (by omega), hc 8 (by omega), hc 9 (by omega)⟩
    · obtain ⟨i, hil, rfl⟩ := List.mem_iff_getElem.1 hx
      obtain ⟨_, h1, h2⟩ := hp i hil
      have hbi : Rows.uptoBulk (D i) ≤ Rows.uptoBulkAll ((List.range l.length).map D) := bulk_mem (List.mem_map.2 ⟨i, List.mem_range.2 hil, rfl⟩)
      refine ⟨h1, ?_⟩
      simp only [Rows.uptoBulk]
      omega
/-- Such an argument. -/
theorem open_acts14_arg {r : Reach} {b0 : Nat} {v : Value} {d : DataW H} {p : List MemPlace} (hv : Value.okWide Tryd.prog w r b0 50 v) (h : DataW.Trod enc Tryd.prog w base spare held 50 v d p) : ∃ (a : Option Addr) (cap : Nat) (l : List C4), v = .slice a l.length cap ∧ l.length ≤ maxLen ∧ C4sAt w a l ∧ ∀ x ∈ l, x.Opened w (Rows.uptoBulk d) := by
  obtain ⟨a, len, cap, rfl⟩ := okWide_slice Tryd.underlying50 hv
  obtain ⟨fuel, hf⟩ := h
  exact open_acts14 (c := .slice a len cap) hf
theorem open_two14 {r : Reach} {b0 : Nat} {v : Value} {d : DataW H} {p : List MemPlace} (hv : Value.okWide Tryd.prog w r b0 87 v) (h : DataW.Trod enc Tryd.prog w base spare held 87 v d p) : ∃ x y : C4, v = twoVal14 x y ∧ ∀ z ∈ [x, y], z.Opened w (Rows.uptoBulk d) := by
  simp only [Value.okWide, Tryd.underlying87] at hv
  obtain ⟨cs, rfl, hsz, _⟩ := hv
  obtain ⟨fuel, hf⟩ := h
  obtain ⟨xs, n, _, hx, hl, hlen, hfe⟩ := DataW.trod_array Tryd.underlying87 hf
  injection hx with hx _
  subst hx
  rw [cells_two14] at hl
  obtain ⟨a0, a1, a2, a3, a4, a5, a6, a7, a8, a9, b0, b1, b2, b3, b4, b5, b6, b7, b8, b9, hcs⟩ := list20 hl
  obtain ⟨x0, x1, rfl⟩ := list2 hlen
  have f0 := hfe 0 (by omega)
  have f1 := hfe 1 (by omega)
  rw [hcs, cells_act14] at f0 f1
  simp only [Nat.zero_mul, Nat.one_mul, List.drop_zero, List.drop_succ_cons, List.take_succ_cons, List.take_zero, List.getElem?_cons_zero, List.getElem?_cons_succ] at f0 f1
  obtain ⟨d0, p0⟩ := x0
  obtain ⟨d1, p1⟩ := x1
  obtain ⟨x, hx, hxo⟩ := open_act14_cells _ _ _ _ f0
  obtain ⟨y, hy, hyo⟩ := open_act14_cells _ _ _ _ f1
  refine ⟨x, y, ?_, fun z hz => ?_⟩
  · have : cs = twoCells14 x y := by
      have h2 : cs.toList = (twoCells14 x y).toList := by
        have h3 : cs.toList = [a0, a1, a2, a3, a4, a5, a6, a7, a8, a9] ++ [b0, b1, b2, b3, b4, b5, b6, b7, b8, b9] := by simpa [Value.cells] using hcs
        rw [h3, hx, hy]; simp [twoCells14]
      exact Array.ext' h2
    rw [this]
    rfl
  · simp only [List.map_cons, List.map_nil, Rows.uptoBulk, Rows.uptoBulkAll]
    simp at hz
    rcases hz with rfl | rfl
    · exact ⟨hxo.1, by have := hxo.2; omega⟩
    · exact ⟨hyo.1, by have := hyo.2; omega⟩
end
end Go.Proofs.YtihmbgdkllmkaaaDoor

/-
  ChannelCopies (betrothallaw14/law.go): its walk: for all calls it returns true, and nothing that was there has turned.
-/
namespace Go.Proofs.YtihmbgdkllmkaaaDoor
open Go.RowKit Go.Shelf
set_option maxRecDepth 100000
set_option linter.unusedVariables false
set_option linter.unusedSimpArgs false

theorem two14_eq (x y : C4) : twoVal14 x y = .agg #[.int .i64 x.what, .int .i64 x.side, .int .i64 x.i, .int .i64 x.e.sync, .int .i64 x.e.thread, .int .i64 x.e.branch, .int .i64 x.e.flag, .int .i64 x.e.v.kind, .int .i64 x.e.v.num, .slice x.e.v.addr x.e.v.parts.length x.e.v.cap, .int .i64 y.what, .int .i64 y.side, .int .i64 y.i, .int .i64 y.e.sync, .int .i64 y.e.thread, .int .i64 y.e.branch, .int .i64 y.e.flag, .int .i64 y.e.v.kind, .int .i64 y.e.v.num, .slice y.e.v.addr y.e.v.parts.length y.e.v.cap] := rfl
def boxT14 (b : Nat) (x y : C4) : Thing := box b 87 (twoCells14 x y)
theorem boxT14_eq (b : Nat) (x y : C4) : boxT14 b x y = box b 87 #[.int .i64 x.what, .int .i64 x.side, .int .i64 x.i, .int .i64 x.e.sync, .int .i64 x.e.thread, .int .i64 x.e.branch, .int .i64 x.e.flag, .int .i64 x.e.v.kind, .int .i64 x.e.v.num, .slice x.e.v.addr x.e.v.parts.length x.e.v.cap, .int .i64 y.what, .int .i64 y.side, .int .i64 y.i, .int .i64 y.e.sync, .int .i64 y.e.thread, .int .i64 y.e.branch, .int .i64 y.e.flag, .int .i64 y.e.v.kind, .int .i64 y.e.v.num, .slice y.e.v.addr y.e.v.parts.length y.e.v.cap] := rfl
theorem Led.two14 {T : List Nat} {w0 w : World} {l : List Thing} {b : Nat} {x y : C4} (h : Led T w0 w l) (i : Nat) (hi : l[i]? = some (boxT14 b x y)) : C4At w b 0 x ∧ C4At w b 10 y ∧ b < w.heap.size := by
  have hb := h.box i hi
  exact ⟨⟨hb.cell 0, hb.cell 1, hb.cell 2, hb.cell 3, hb.cell 4, hb.cell 5, hb.cell 6, hb.cell 7, hb.cell 8, hb.cell 9⟩, ⟨hb.cell 10, hb.cell 11, hb.cell 12, hb.cell 13, hb.cell 14, hb.cell 15, hb.cell 16, hb.cell 17, hb.cell 18, hb.cell 19⟩, hb.lt⟩
theorem two14_at {w : World} {b : Nat} {x y : C4} (h0 : C4At w b 0 x) (h1 : C4At w b 10 y) (hb : b < w.heap.size) : C4sAt w (some ⟨b, 0, none⟩) [x, y] := by
  intro i hi
  have : i = 0 ∨ i = 1 := by simp at hi; omega
  rcases this with rfl | rfl
  · exact ⟨b, 0, rfl, hb, h0⟩
  · exact ⟨b, 0, rfl, hb, h1⟩
/-- The call that is made of it. -/
def C4.norm (x : C4) : C4 := if x.what = 6 ∨ x.what = 7 then ⟨0, x.side, x.i, x.e⟩ else x
theorem C4.norm_e (x : C4) : x.norm.e = x.e := by unfold C4.norm; split <;> rfl
theorem C4.norm_what (x : C4) : x.norm.what ≠ 6 ∧ x.norm.what ≠ 7 := by
  unfold C4.norm; split
  · exact ⟨show (0 : Int) ≠ 6 by decide, show (0 : Int) ≠ 7 by decide⟩
  · rename_i h; omega
theorem C4.norm_of (x : C4) (h : x.what = 6 ∨ x.what = 7) : x.norm = ⟨0, x.side, x.i, x.e⟩ := by unfold C4.norm; rw [if_pos h]
theorem C4.norm_not (x : C4) (h : ¬ (x.what = 6 ∨ x.what = 7)) : x.norm = x := by unfold C4.norm; rw [if_neg h]
theorem two14_put0 (x y : C4) : (twoCells14 x y).setIfInBounds 0 (.int .i64 0) = twoCells14 ⟨0, x.side, x.i, x.e⟩ y := rfl
theorem two14_put10 (x y : C4) : (twoCells14 x y).setIfInBounds 10 (.int .i64 0) = twoCells14 x ⟨0, y.side, y.i, y.e⟩ := rfl
/-- A call that is not the lock's, in a greater ledger. -/
theorem Led.turn14 {T : List Nat} {w0 w : World} {P : World → Prop} {c : Nat} {at_ : Int} {M q1 q2 bx g : Nat} {es1 es2 rs1 rs2 : List ME} {a1 : Option Addr} {c1 : Nat} {a2 : Option Addr} {c2 : Nat} {s : Ar} {vc vl : Value} {r : List Thing} (h : Led T w0 w (L14 c at_ M q1 q2 es1 es2 P bx g s vc vl a1 rs1.length c1 a2 rs2.length c2 ++ r)) (x : C4) (hB1 : Both13 P es1 rs1 a1 c1) (hB2 : Both13 P es2 rs2 a2 c2) (hS : ∀ W, P W → SidesAt W) (hx : x.e.v.nodes ≤ 20 ∧ ∀ W, P W → x.e.v.In W) (hw : x.what ≠ 6 ∧ x.what ≠ 7) :
    Calls Tryd.prog 19 #[.pointer (some ⟨bx, 0, none⟩), x.val] w fun e w' => ∃ (c' M' q1' q2' : Nat) (fs1 fs2 ss1 ss2 : List ME) (b1 : Option Addr) (d1 : Nat) (b2 : Option Addr) (d2 : Nat) (P' : World → Prop), e = .returned (.bool true) ∧ Both13 P' fs1 ss1 b1 d1 ∧ Both13 P' fs2 ss2 b2 d2 ∧ (∀ W, P' W → P W) ∧ Led T w0 w' (L14 c' at_ M' q1' q2' fs1 fs2 P' bx g s vc vl b1 ss1.length d1 b2 ss2.length d2 ++ r) := by
  obtain ⟨T', h1, hb⟩ := h.frameFront
  refine (act14_still T' w P c at_ M q1 q2 bx g es1 es2 rs1 rs2 a1 c1 a2 c2 s vc vl x h1 hB1 hB2 hS hx hw).mono ?_
  rintro e w' ⟨c', M', q1', q2', fs1, fs2, ss1, ss2, b1, d1, b2, d2, P', rfl, hB1', hB2', hP, hL'⟩
  exact ⟨c', M', q1', q2', fs1, fs2, ss1, ss2, b1, d1, b2, d2, P', rfl, hB1', hB2', hP, hb _ _ hL'⟩
/-- Copy, in a greater ledger. -/
theorem Led.chCopyS {T : List Nat} {w0 w : World} {P : World → Prop} {c : Nat} {at_ : Int} {M q1 q2 : Nat} {es1 es2 rs1 rs2 : List ME} {a1 : Option Addr} {c1 : Nat} {a2 : Option Addr} {c2 : Nat} {r : List Thing} (h : Led T w0 w ((chanL c at_ M q1 q2 es1 es2 ++ [stillT P]) ++ r)) (hB1 : Both13 P es1 rs1 a1 c1) (hB2 : Both13 P es2 rs2 a2 c2) (hS : ∀ W, P W → SidesAt W) :
    Calls Tryd.prog 26 #[.pointer (some ⟨c, 0, none⟩)] w fun e w' => ∃ (d N p1 p2 : Nat) (ys1 ys2 : List ME) (P' : World → Prop), e = .returned (.pointer (some ⟨d, 0, none⟩)) ∧ Both13 P' ys1 rs1 a1 c1 ∧ Both13 P' ys2 rs2 a2 c2 ∧ (∀ W, P' W → P W) ∧ Led T w0 w' (chanL c at_ M q1 q2 es1 es2 ++ [stillT P'] ++ chanL d at_ N p1 p2 ys1 ys2 ++ r) := by
  obtain ⟨T', h1, hb⟩ := h.frameFront
  refine (Copy_ch T' w c at_ M q1 q2 es1 es2 P h1 hS (fun W hW => ⟨fun e he => ⟨(hB1.2.2.2.2 W hW).1 e he, hB1.2.2.2.1 e he⟩, fun e he => ⟨(hB2.2.2.2.2 W hW).1 e he, hB2.2.2.2.1 e he⟩⟩) hB1.2.2.1 hB2.2.2.1).mono ?_
  rintro e w' ⟨d, N, p1, p2, ys1, ys2, rfl, hp1, hp2, hL⟩
  have h4 := hL.sel [0, 1, 2, 3, 4, 5, 6, 7, 9, 8, 10] (l' := [Proofs.YtihmbgdkllmkaaaDoor.box c 75 #[.int .i64 at_, .map (some M)], exact1 M (mapObj q1 q2), queueT q1 es1, queueT q2 es2, stillT P, Proofs.YtihmbgdkllmkaaaDoor.box d 75 #[.int .i64 at_, .map (some N)], exact1 N (mapObj p1 p2), queueT p1 ys1, queueT p2 ys2, valsT (ys1.map ME.v)] ++ [valsT (ys2.map ME.v)]) rfl (by decide)
  have h5 := Led.settle (l := [_, _, _, _, _, _, _, _, _, _]) h4 4 rfl (fun W f (hW : P W) hf => (⟨hW, fun y hy => hf.2 _ (List.mem_map.2 ⟨y, hy, rfl⟩)⟩ : P W ∧ ∀ y ∈ ys2, y.v.In W))
  have h6 := Led.settle (l := [_, _, _, _, _, _, _, _, _]) h5 4 rfl (fun W f (hW : P W ∧ ∀ y ∈ ys2, y.v.In W) hf => (⟨hW, fun y hy => hf.2 _ (List.mem_map.2 ⟨y, hy, rfl⟩)⟩ : (P W ∧ ∀ y ∈ ys2, y.v.In W) ∧ ∀ y ∈ ys1, y.v.In W))
  have h7 := hb _ _ h6
  exact ⟨d, N, p1, p2, ys1, ys2, _, rfl, (hB1.copy hp1).weak14 (fun W hW => ⟨hW.1.1, hW.2⟩), (hB2.copy hp2).weak14 (fun W hW => hW.1), fun W hW => hW.1.1, h7⟩
/-- What lies there of the loop over the calls. -/
def ccL14 (c : Nat) (at_ : Int) (M q1 q2 : Nat) (es1 es2 : List ME) (P : World → Prop) (bx g : Nat) (s : Ar) (vc vl : Value) (a1 : Option Addr) (n1 c1 : Nat) (a2 : Option Addr) (n2 c2 : Nat) (b3 : Nat) (x y : C4) : List Thing := L14 c at_ M q1 q2 es1 es2 P bx g s vc vl a1 n1 c1 a2 n2 c2 ++ [boxT14 b3 x y]
/-- What lies there behind the copy. -/
def ccR14 (c : Nat) (at_ : Int) (M q1 q2 : Nat) (es1 es2 : List ME) (P : World → Prop) (bx g : Nat) (s : Ar) (vc vl : Value) (a1 : Option Addr) (n1 c1 : Nat) (a2 : Option Addr) (n2 c2 : Nat) (d N p1 p2 : Nat) (ys1 ys2 : List ME) (b3 : Nat) (x y : C4) (b8 b10 al : Nat) (v : Value) (zs : List ME) : List Thing :=
  L14 c at_ M q1 q2 es1 es2 P bx g s vc vl a1 n1 c1 a2 n2 c2 ++ (chanL d at_ N p1 p2 ys1 ys2 ++ [boxT14 b3 x y, box b8 61 #[.int .i64 at_, .slice a1 n1 c1, .slice a2 n2 c2], box b10 63 (bothC14 g d vc s.most vl at_ a1 n1 c1 a2 n2 c2), allT al v zs])
set_option maxHeartbeats 40000000 in
theorem channelCopies_any (w : World) (a0 : Option Addr) (c0 : Nat) (l : List C4) (x0 y0 : C4) (ha : C4sAt w a0 l) (hin : ∀ x ∈ l, x.e.v.In w ∧ x.e.v.nodes ≤ 1048576) (hl : l.length ≤ 9223372036854775807) (hy : ∀ x ∈ [x0, y0], x.e.v.In w ∧ x.e.v.nodes ≤ 1048576) (hS : SidesAt w) :
    Calls Tryd.prog 6 #[.slice a0 l.length c0, twoVal14 x0 y0] w fun e w' => e = .returned (.bool true) ∧ Below w.heap.size w w' := by
  have HA := Lib.hid ha
  have HI := Lib.hid hin
  have HY := Lib.hid hy
  have HSW : Hid (∀ W, Old w W → SidesAt W) := fun W hW => hS.old hW
  have HO : Hid (∀ W, Old w W → Old w W) := fun W hW => hW
  have HL0 := Lib.hid (Led.old0 w)
  generalize hTT : List.range w.heap.size = T at HL0
  clear ha hin hTT hy hS
  rw [two14_eq]
  go_enter Tryd.func6, Tryd.ntmps6
  go_wp2_with fail
  refine wp_calls_name ?_
  intro w1 hw1
  have HL1 := Lib.hid (HL0.out.al1 hw1)
  simp only [List.nil_append, List.cons_append, ← boxT14_eq] at HL1
  obtain ⟨b3, hb3⟩ : ∃ b, w.heap.size = b := ⟨_, rfl⟩
  rw [hb3] at HL1 ⊢
  clear hw1 hb3 HL0
  have HTw := Lib.hid (HL1.out.oldTouch (HL1.out.still 0 rfl))
  refine (few14 w1 a0 c0 l 30 hl (HA.out.touch HTw.out) (fun x hx => ⟨(HI.out x hx).1.touch0 HTw.out, (HI.out x hx).2⟩)).mono ?_
  rintro e w2 ⟨cc, rfl, hcc, ht⟩
  have HL2 := Lib.hid (HL1.out.touch ht)
  have HCC := Lib.hid hcc
  clear hcc ht HL1 HTw
  cases cc with
  | false =>
    go_wp2_with fail
    refine (works14 _ (HSW.out _ (HO.out _ (HL2.out.still 0 rfl)))).mono ?_
    rintro e w9 ⟨rfl, ht⟩
    have HL9 := Lib.hid (HL2.out.touch ht)
    clear ht
    go_wp2
    go_ret
    exact ⟨rfl, (HL9.out.oldTouch (HO.out _ (HL9.out.still 0 rfl))).below⟩
  | true =>
    have HFW := Lib.hid (HCC.out.1 rfl).2
    have hl30 : l.length ≤ 30 := by have := (HCC.out.1 rfl).1; omega
    clear HCC
    have HTw := Lib.hid (HL2.out.oldTouch (HL2.out.still 0 rfl))
    have HAT := Lib.hid (HL2.out.two14 1 rfl)
    have HF2 := Lib.hid (few14 w2 (some ⟨b3, 0, none⟩) 2 [x0, y0] 2 (by simp) (two14_at HAT.out.1 HAT.out.2.1 HAT.out.2.2) (fun x hx => ⟨(HY.out x hx).1.touch0 HTw.out, (HY.out x hx).2⟩))
    simp only [List.length_cons, List.length_nil, Nat.reduceAdd] at HF2
    clear HAT
    go_wp2_with fail
    refine HF2.out.mono ?_
    rintro e w3 ⟨cc, rfl, hcc, ht⟩
    have HL3 := Lib.hid (HL2.out.touch ht)
    have HCC := Lib.hid hcc
    clear hcc ht HL2 HTw HF2
    cases cc with
    | false =>
      go_wp2_with fail
      refine (works14 _ (HSW.out _ (HO.out _ (HL3.out.still 0 rfl)))).mono ?_
      rintro e w9 ⟨rfl, ht⟩
      have HL9 := Lib.hid (HL3.out.touch ht)
      clear ht
      go_wp2
      go_ret
      exact ⟨rfl, (HL9.out.oldTouch (HO.out _ (HL9.out.still 0 rfl))).below⟩
    | true =>
      have HFY := Lib.hid (HCC.out.1 rfl).2
      clear HCC
      go_wp2_with fail
      refine (made14_9 w3 (HSW.out _ (HL3.out.still 0 rfl))).mono ?_
      rintro e w4 ⟨g, c, M, q1, q2, s, vc, vl, at_, rfl, hsl, hL⟩
      have HL4 := Lib.hid (HL3.out.join hL)
      simp only [chanL, List.nil_append, List.cons_append] at HL4
      have HSL := Lib.hid hsl
      clear hL HL3 hsl
      obtain ⟨ca, cp, rfl, _, _⟩ := own_val (HL4.out.refAt 7 rfl).cel
      obtain ⟨la, lp, rfl, _, _⟩ := own_val (HL4.out.refAt 7 rfl).log
      simp only [bothC14]
      go_wp2_with fail
      refine wp_name ?_
      intro w5 hw5
      have HL5 := Lib.hid ((HL4.out.al1 hw5).sel [2, 3, 4, 5, 0, 8, 6, 7, 1] (l' := ccL14 c at_ M q1 q2 [] [] (Old w) w4.heap.size g s (.slice ca s.C.length cp) (.slice la s.L.length lp) none ([] : List ME).length 0 none ([] : List ME).length 0 b3 x0 y0) rfl (by decide))
      obtain ⟨bx, hbx⟩ : ∃ b, w4.heap.size = b := ⟨_, rfl⟩
      rw [hbx] at HL5 ⊢
      clear hw5 hbx HL4
      go_loopw [7] (fun i wr => ∃ (k c M q1 q2 : Nat) (es1 es2 rs1 rs2 : List ME) (a1 : Option Addr) (c1 : Nat) (a2 : Option Addr) (c2 : Nat) (P : World → Prop) (s : Ar) (vc vl : Value), i = .int .i64 (k : Int) ∧ k ≤ l.length ∧ Hid (Both13 P es1 rs1 a1 c1) ∧ Hid (Both13 P es2 rs2 a2 c2) ∧ Hid (∀ W, P W → Old w W) ∧ Hid (s.L.length ≤ k) ∧
        Hid (Led T w wr (ccL14 c at_ M q1 q2 es1 es2 P bx g s vc vl a1 rs1.length c1 a2 rs2.length c2 b3 x0 y0))) (fun i _ => l.length - (intOf i).toNat)
      case atStart => exact ⟨0, c, M, q1, q2, [], [], [], [], none, 0, none, 0, Old w, s, _, _, rfl, Nat.zero_le _, both14_0 _, both14_0 _, fun W h => h, by unfold Hid; rw [HSL.out]; simp, HL5⟩
      case round =>
        obtain ⟨k, c, M, q1, q2, es1, es2, rs1, rs2, a1, c1, a2, c2, P, s, vc, vl, rfl, hk, HB1, HB2, HO, HN, HK⟩ := hrel
        clear HL5 HSL
        have hk0 : (0 : Int) ≤ (k : Int) := by omega
        have HSP : Hid (∀ W, P W → SidesAt W) := fun W hW => HSW.out W (HO.out W hW)
        by_cases hkl : k < l.length
        · have hkl' : (k : Int) < (l.length : Int) := by omega
          have HTw := Lib.hid (HK.out.oldTouch (HO.out _ (HK.out.still 4 rfl)))
          obtain ⟨b, o, rfl, hb, d0, d1, d2, d3, d4, d5, d6, d7, d8, d9⟩ := (HA.out.touch HTw.out).load k hkl
          have HXI := Lib.hid (HI.out _ (List.getElem_mem hkl)).1
          have HXF := Lib.hid (HFW.out _ (List.getElem_mem hkl))
          generalize l[k] = x at d0 d1 d2 d3 d4 d5 d6 d7 d8 d9 HXI HXF
          have HAC := Lib.hid (Led.act14' (r := [boxT14 b3 x0 y0]) HK.out x HB1.out HB2.out HSP.out HN.out (by omega) ⟨HXF.out, fun W hW => HXI.out.old14 (HO.out W hW)⟩)
          unfold C4.val at HAC
          go_wp2_with fail
          refine HAC.out.mono ?_
          rintro e w6 ⟨c', M', q1', q2', fs1, fs2, ss1, ss2, b1, e1, b2, e2, P2, s2, vc2, vl2, rfl, hB1, hB2, hP2, hs2, hL⟩
          have HL6 := Lib.hid hL
          have HC1 := Lib.hid hB1
          have HC2 := Lib.hid hB2
          have HN2 := Lib.hid hs2
          have HO2 : Hid (∀ W, P2 W → Old w W) := fun W hW => HO.out W (hP2 W hW)
          clear hL hB1 hB2 hP2 hs2 d0 d1 d2 d3 d4 d5 d6 d7 d8 d9 hb HAC HTw HK HB1 HB2 HSP HN HO
          go_wp2
          go_roundw
          case rel => exact ⟨k + 1, c', M', q1', q2', fs1, fs2, ss1, ss2, b1, e1, b2, e2, P2, s2, vc2, vl2, by go_num, hkl, HC1, HC2, HO2, HN2, HL6⟩
          case measure => simp [intOf]; omega
        · have hkl' : ¬ (k : Int) < (l.length : Int) := by omega
          have HN30 : Hid (s.L.length ≤ 1000) := by have := HN.out; unfold Hid; omega
          obtain ⟨ca, cp, rfl, _, _⟩ := own_val (HK.out.refAt 7 rfl).cel
          obtain ⟨la, lp, rfl, _, _⟩ := own_val (HK.out.refAt 7 rfl).log
          simp only [ccL14, L14, chanL, bothC14, List.cons_append, List.nil_append] at HK
          obtain ⟨y0', y1', y2', y3', y4', y5', y6', y7', _, hlx⟩ := HK.out.c8' 5 rfl
          go_upto_region 12 with fail
          refine wp_name ?_
          intro w2 hw2
          have HL2 := Lib.hid (HK.out.al1 hw2)
          simp only [List.nil_append, List.cons_append] at HL2
          obtain ⟨b8, hb8⟩ : ∃ b, wr.heap.size = b := ⟨_, rfl⟩
          rw [hb8] at HL2 ⊢
          clear hw2 hb8 HK y0' y1' y2' y3' y4' y5' y6' y7' hlx HN hkl' hkl
          obtain ⟨y0', y1', y2', y3', y4', y5', y6', y7', _, hlx⟩ := HL2.out.c8' 5 rfl
          have HCC := Lib.hid (fun W r (h : Led T w W ((chanL c at_ M q1 q2 es1 es2 ++ [stillT P]) ++ r)) => h.chCopyS HB1.out HB2.out HSP.out)
          have HLa := Lib.hid HL2.out.drew
          have HLb := Lib.hid (HL2.out.alloc 63 #[.pointer none, .pointer none, .slice none 0 0, .int .i64 0, .slice none 0 0, .int .i64 0, .slice none 0 0, .slice none 0 0]).drew
          simp only [List.nil_append, List.cons_append] at HLb
          have m0 : bx ≠ w2.heap.size := by omega
          have m00 := Ne.symm m0
          go_wp2_with fail
          go_region_held3 (fun w' => w'.cell? ⟨bx, 0, none⟩ = some (.pointer (some ⟨g, 0, none⟩)) ∧ w'.cell? ⟨bx, 1, none⟩ = some (.pointer (some ⟨c, 0, none⟩)) ∧ w'.cell? ⟨bx, 2, none⟩ = some (.slice ca s.C.length cp) ∧ w'.cell? ⟨bx, 3, none⟩ = some (.int .i64 (s.most : Int)) ∧ w'.cell? ⟨bx, 4, none⟩ = some (.slice la s.L.length lp) ∧ w'.cell? ⟨bx, 5, none⟩ = some (.int .i64 at_) ∧ w'.cell? ⟨bx, 6, none⟩ = some (.slice a1 rs1.length c1) ∧ w'.cell? ⟨bx, 7, none⟩ = some (.slice a2 rs2.length c2)) (go_keep) (first
            | (go_at_call 26; refine (HCC.out _ _ HLa.out).mono ?_; rintro e w3 ⟨d, N, p1, p2, ys1, ys2, P1, rfl, hq1, hq2, hP1, hL⟩; have HL3 := Lib.hid hL; (simp only [chanL, List.cons_append, List.nil_append] at HL3); have HQ1 := Lib.hid hq1; have HQ2 := Lib.hid hq2; have HP1 := Lib.hid hP1; clear hL hq1 hq2 hP1 y0' y1' y2' y3' y4' y5' y6' y7' hlx; obtain ⟨y0', y1', y2', y3', y4', y5', y6', y7', _, hlx⟩ := HL3.out.c8' 9 rfl; have m1 : bx ≠ w3.heap.size := (by omega); have m2 := Ne.symm m1)
            | (go_at_call 26; refine (HCC.out _ _ HLb.out).mono ?_; rintro e w3 ⟨d, N, p1, p2, ys1, ys2, P1, rfl, hq1, hq2, hP1, hL⟩; have HL3 := Lib.hid hL; (simp only [chanL, List.cons_append, List.nil_append] at HL3); have HQ1 := Lib.hid hq1; have HQ2 := Lib.hid hq2; have HP1 := Lib.hid hP1; clear hL hq1 hq2 hP1 y0' y1' y2' y3' y4' y5' y6' y7' hlx; obtain ⟨y0', y1', y2', y3', y4', y5', y6', y7', _, hlx⟩ := HL3.out.c8' 9 rfl; obtain ⟨k0, k1, k2, k3, k4, k5, k6, k7, ⟨f0, f1, f2, f3, f4, f5, f6, f7⟩, hlk⟩ := HL3.out.c8' 14 rfl; have m1 : bx ≠ w2.heap.size := m0; have m2 := m00))
          all_goals rename_i hHeld
          all_goals clear hHeld y0' y1' y2' y3' y4' y5' y6' y7' hlx HLa HLb HCC HL2 m0 m00
          all_goals refine exit_nameR (Q := Exit.then _ _) ?_
          all_goals intro w5 hw5
          all_goals first
            | (have k0' := k0; clear k0'; have HL4 := Lib.hid (((((((((HL3.out.set 14 rfl 0 (.pointer (some ⟨g, 0, none⟩))).set 14 rfl 1 (.pointer (some ⟨d, 0, none⟩))).set 14 rfl 2 (.slice ca s.C.length cp)).set 14 rfl 3 (.int .i64 (s.most : Int))).set 14 rfl 4 (.slice la s.L.length lp)).set 14 rfl 5 (.int .i64 at_)).set 14 rfl 6 (.slice a1 rs1.length c1)).set 14 rfl 7 (.slice a2 rs2.length c2)).via (by with_reducible exact hw5)); (simp only [List.set_cons_succ, List.set_cons_zero, List.setIfInBounds_toArray] at HL4); clear hw5 HL3 m1 m2 k0 k1 k2 k3 k4 k5 k6 k7 f0 f1 f2 f3 f4 f5 f6 f7 hlk; obtain ⟨b10, hb10⟩ : ∃ b, w2.heap.size = b := ⟨_, rfl⟩; rw [hb10] at HL4 ⊢; clear hb10)
            | (have HL4 := Lib.hid ((HL3.out.alloc 63 #[.pointer (some ⟨g, 0, none⟩), .pointer (some ⟨d, 0, none⟩), .slice ca s.C.length cp, .int .i64 (s.most : Int), .slice la s.L.length lp, .int .i64 at_, .slice a1 rs1.length c1, .slice a2 rs2.length c2]).via (by with_reducible exact hw5)); clear hw5 HL3 m1 m2; obtain ⟨b10, hb10⟩ : ∃ b, w3.heap.size = b := ⟨_, rfl⟩; rw [hb10] at HL4 ⊢; clear hb10)
          all_goals
            (try simp only [List.nil_append, List.cons_append] at HL4)
            have HB11 := Lib.hid (HB1.out.weak14 HP1.out)
            have HB12 := Lib.hid (HB2.out.weak14 HP1.out)
            have HO1 : Hid (∀ W, P1 W → Old w W) := fun W hW => HO.out W (HP1.out W hW)
            have HSP1 : Hid (∀ W, P1 W → SidesAt W) := fun W hW => HSP.out W (HP1.out W hW)
            clear HB1 HB2 HO HP1 HSP
            obtain ⟨y0', y1', y2', y3', y4', y5', y6', y7', _, hlx⟩ := HL4.out.c8' 9 rfl
            go_wp2_with fail
            refine (All_ch w5 c at_ M q1 q2 (HL4.out.chAt 0 1 rfl rfl) 1 q1 es1 rfl (HL4.out.qAt 2 rfl) (fun e he => ⟨(HB11.out.2.2.2.2 _ (HL4.out.still 4 rfl)).1 e he, HB11.out.2.2.2.1 e he⟩) HB11.out.2.2.1).mono ?_
            rintro e w6 ⟨al, ra, rc, zs, rfl, hpz, hL⟩
            have HPZ := Lib.hid (hpz.trans HB11.out.1)
            have HL6 := Lib.hid ((HL4.out.join hL).sel [0, 1, 2, 3, 4, 9, 10, 11, 5, 6, 7, 8, 12, 13, 14, 15] (l' := ccR14 c at_ M q1 q2 es1 es2 P1 bx g s (.slice ca s.C.length cp) (.slice la s.L.length lp) a1 rs1.length c1 a2 rs2.length c2 d N p1 p2 ys1 ys2 b3 x0 y0 b8 b10 al (.slice ra zs.length rc) zs) rfl (by decide))
            clear hL hpz HL4 y0' y1' y2' y3' y4' y5' y6' y7' hlx
            go_wp2_with fail
            go_loopw [11] (fun i wr => ∃ (k : Nat) (x y : C4), i = .int .i64 (k : Int) ∧ k ≤ 2 ∧ Hid (x = (if 0 < k then x0.norm else x0)) ∧ Hid (y = (if 1 < k then y0.norm else y0)) ∧ Hid (Led T w wr (ccR14 c at_ M q1 q2 es1 es2 P1 bx g s (.slice ca s.C.length cp) (.slice la s.L.length lp) a1 rs1.length c1 a2 rs2.length c2 d N p1 p2 ys1 ys2 b3 x y b8 b10 al (.slice ra zs.length rc) zs))) (fun i _ => 2 - (intOf i).toNat)
            case atStart => exact ⟨0, x0, y0, rfl, by omega, rfl, rfl, HL6⟩
            case round =>
              obtain ⟨j, x, y, rfl, hj, HX, HYY, HK⟩ := hrel
              clear HL6
              have : j = 0 ∨ j = 1 ∨ j = 2 := by omega
              rcases this with rfl | rfl | rfl
              · obtain rfl : x = x0 := by simpa using HX.out
                obtain rfl : y = y0 := by simpa using HYY.out
                obtain ⟨⟨d0, _⟩, _, hb3⟩ := HK.out.two14 12 rfl
                have f0 := (HK.out.box 12 rfl).frozen 0
                by_cases h6 : x.what = 6 ∨ x.what = 7
                · have HL7 := Lib.hid (HK.out.set 12 rfl 0 (.int .i64 0))
                  rw [two14_put0] at HL7
                  have HNF := Lib.hid (x.norm_of h6).symm
                  have e6 : (x.what == 6) = true ∨ (x.what == 6) = false ∧ (x.what == 7) = true := by rcases h6 with h | h <;> simp [h]
                  rcases e6 with e6 | ⟨e6, e7⟩
                  all_goals
                    go_wp2
                    clear HK d0 f0 hb3
                    go_roundw
                    case rel => exact ⟨1, ⟨0, x.side, x.i, x.e⟩, y, by go_num, by omega, HNF.out, rfl, HL7⟩
                    case measure => simp [intOf]
                · have e6 : (x.what == 6) = false := by simp; omega
                  have e7 : (x.what == 7) = false := by simp; omega
                  go_wp2
                  clear d0 f0 hb3
                  go_roundw
                  case rel => exact ⟨1, x, y, by go_num, by omega, (x.norm_not h6).symm, rfl, HK⟩
                  case measure => simp [intOf]
              · obtain rfl : x = x0.norm := by simpa using HX.out
                obtain rfl : y = y0 := by simpa using HYY.out
                generalize hxn : x0.norm = x at HK
                have HXN2 : Hid (x = x0.norm) := hxn.symm
                clear hxn
                obtain ⟨_, ⟨d0, _⟩, hb3⟩ := HK.out.two14 12 rfl
                have f0 := (HK.out.box 12 rfl).frozen 10
                by_cases h6 : y.what = 6 ∨ y.what = 7
                · have HL7 := Lib.hid (HK.out.set 12 rfl 10 (.int .i64 0))
                  rw [two14_put10] at HL7
                  have HNF := Lib.hid (y.norm_of h6).symm
                  have e6 : (y.what == 6) = true ∨ (y.what == 6) = false ∧ (y.what == 7) = true := by rcases h6 with h | h <;> simp [h]
                  rcases e6 with e6 | ⟨e6, e7⟩
                  all_goals
                    go_wp2
                    clear HK d0 f0 hb3
                    go_roundw
                    case rel => exact ⟨2, x, ⟨0, y.side, y.i, y.e⟩, by go_num, by omega, rfl, HNF.out, HL7⟩
                    case measure => simp [intOf]
                · have e6 : (y.what == 6) = false := by simp; omega
                  have e7 : (y.what == 7) = false := by simp; omega
                  go_wp2
                  clear d0 f0 hb3
                  go_roundw
                  case rel => exact ⟨2, x, y, by go_num, by omega, rfl, (y.norm_not h6).symm, HK⟩
                  case measure => simp [intOf]
              · have hx : x = x0.norm := by simpa using HX.out
                have hyy : y = y0.norm := by simpa using HYY.out
                have HXQ : Hid (x.e.v.nodes ≤ 20 ∧ ∀ W, P1 W → x.e.v.In W) := by rw [hx, C4.norm_e]; exact ⟨HFY.out x0 (by simp), fun W hW => (HY.out x0 (by simp)).1.old14 (HO1.out W hW)⟩
                have HYQ : Hid (y.e.v.nodes ≤ 20 ∧ ∀ W, P1 W → y.e.v.In W) := by rw [hyy, C4.norm_e]; exact ⟨HFY.out y0 (by simp), fun W hW => (HY.out y0 (by simp)).1.old14 (HO1.out W hW)⟩
                have HXV := Lib.hid x0.norm_what
                have HYV := Lib.hid y0.norm_what
                rw [← hx] at HXV
                rw [← hyy] at HYV
                clear hx hyy HX HYY
                obtain ⟨⟨d0, d1, d2, d3, d4, d5, d6, d7, d8, d9⟩, ⟨e0, e1, e2, e3, e4, e5, e6, e7, e8, e9⟩, hb3⟩ := HK.out.two14 12 rfl
                simp only [Nat.zero_add, Nat.reduceAdd] at d0 d1 d2 d3 d4 d5 d6 d7 d8 d9 e0 e1 e2 e3 e4 e5 e6 e7 e8 e9
                have HT1 := Lib.hid (Led.turn14 HK.out x HB11.out HB12.out HSP1.out HXQ.out HXV.out)
                unfold C4.val at HT1
                go_wp2_with fail
                refine HT1.out.mono ?_
                rintro e w7 ⟨c', M', q1', q2', fs1, fs2, ss1, ss2, b1, k1, b2, k2, P2, rfl, hB1, hB2, hP, hL⟩
                have HL7 := Lib.hid hL
                have HX1 := Lib.hid hB1
                have HX2 := Lib.hid hB2
                have HP2 := Lib.hid hP
                clear hL hB1 hB2 hP HT1 HK d0 d1 d2 d3 d4 d5 d6 d7 d8 d9 e0 e1 e2 e3 e4 e5 e6 e7 e8 e9 hb3
                obtain ⟨_, ⟨e0, e1, e2, e3, e4, e5, e6, e7, e8, e9⟩, hb3⟩ := HL7.out.two14 12 rfl
                simp only [Nat.zero_add, Nat.reduceAdd] at e0 e1 e2 e3 e4 e5 e6 e7 e8 e9
                have HT2 := Lib.hid (Led.turn14 (c := d) (M := N) (q1 := p1) (q2 := p2) (es1 := ys1) (es2 := ys2) (bx := b10) (r := chanL c' at_ M' q1' q2' fs1 fs2 ++ [box bx 63 (bothC14 g c' (.slice ca s.C.length cp) s.most (.slice la s.L.length lp) at_ b1 ss1.length k1 b2 ss2.length k2), boxT14 b3 x y, box b8 61 #[.int .i64 at_, .slice a1 rs1.length c1, .slice a2 rs2.length c2], allT al (.slice ra zs.length rc) zs]) (HL7.out.sel [8, 9, 10, 11, 4, 14, 6, 7, 0, 1, 2, 3, 5, 12, 13, 15] rfl (by decide)) y (HQ1.out.weak14 HP2.out) (HQ2.out.weak14 HP2.out) (fun W hW => HSP1.out W (HP2.out W hW)) ⟨HYQ.out.1, fun W hW => HYQ.out.2 W (HP2.out W hW)⟩ HYV.out)
                unfold C4.val at HT2
                go_wp2_with fail
                refine HT2.out.mono ?_
                rintro e w8 ⟨d', N', p1', p2', gs1, gs2, ts1, ts2, o1, m1, o2, m2, P3, rfl, hB1, hB2, hP, hL⟩
                have HL8 := Lib.hid hL
                have HY1 := Lib.hid hB1
                have HY2 := Lib.hid hB2
                have HX13 := Lib.hid (HX1.out.weak14 hP)
                have HX23 := Lib.hid (HX2.out.weak14 hP)
                have HW13 := Lib.hid ((HB11.out.weak14 HP2.out).weak14 hP)
                have HO3 : Hid (∀ W, P3 W → Old w W) := fun W hW => HO1.out W (HP2.out W (hP W hW))
                have HSP3 : Hid (∀ W, P3 W → SidesAt W) := fun W hW => HSP1.out W (HP2.out W (hP W hW))
                clear hL hB1 hB2 hP HT2 HL7 e0 e1 e2 e3 e4 e5 e6 e7 e8 e9 hb3 HXQ HYQ HXV HYV HX1 HX2 HQ1 HQ2 HP2 HO1 HSP1 HB11 HB12
                go_wp2_with fail
                refine (Led.is14' (c := c') (M := M') (q1 := q1') (q2 := q2') (bx := bx) (es1 := fs1) (es2 := fs2) (r := []) (HL8.out.sel [8, 9, 10, 11, 4, 12, 6, 7] rfl (by decide)) HX13.out HX23.out HSP3.out HN30.out (by omega) 9999 (by omega)).mono ?_
                rintro e w9 ⟨rfl, ht⟩
                have HL9 := Lib.hid (HL8.out.touch ht)
                clear ht HL8
                go_wp2_with fail
                refine (Led.is14' (c := d') (M := N') (q1 := p1') (q2 := p2') (bx := b10) (es1 := gs1) (es2 := gs2) (r := []) (HL9.out.sel [0, 1, 2, 3, 4, 5, 6, 7] rfl (by decide)) HY1.out HY2.out HSP3.out HN30.out (by omega) 9999 (by omega)).mono ?_
                rintro e wA ⟨rfl, ht⟩
                have HLA := Lib.hid (HL9.out.touch ht)
                clear ht HL9
                have HOV := Lib.hid (fun W (hW : Touch [] wA W) many (hm : many ≤ 10000) => over14 W al ra rc zs rs1 a1 c1 many (AllAt.touch (HLA.out.allAt 15 rfl) hW) (fun z hz => by
                    have hmm : z.plain ∈ rs1.map ME.plain := by rw [← HPZ.out]; exact List.mem_map_of_mem hz
                    obtain ⟨r, hr, hpr⟩ := List.mem_map.1 hmm
                    rw [plain_nodes_eq hpr]; exact HW13.out.rnodes r hr) (((HW13.out.2.2.2.2 _ (HLA.out.still 4 rfl)).2.1).touch hW) (fun r hr => ⟨((HW13.out.2.2.2.2 _ (HLA.out.still 4 rfl)).2.2 r hr).touch0 hW, HW13.out.rnodes r hr⟩) HPZ.out (by have := HW13.out.len; have := HW13.out.2.2.1; omega) hm)
                have HLI : Hid (∀ W, Calls Tryd.prog 28 #[.agg #[.int .i64 at_, .slice a1 rs1.length c1, .slice a2 rs2.length c2], .int .i64 1] W fun e w' => e = .returned (.slice a1 rs1.length c1) ∧ Touch [] W w') := fun W => List_ref14 W at_ a1 rs1.length c1 a2 rs2.length c2 1
                obtain ⟨k0, k1', k2', _, _, _, hlk, _, _⟩ := HLA.out.c3 14 rfl
                go_wp2_with fail
                refine (HLI.out wA).mono ?_
                rintro e wa ⟨rfl, ht⟩
                have HTa := Lib.hid ht
                clear ht
                go_wp2_with fail
                refine (HOV.out wa HTa.out 9999 (by omega)).mono ?_
                rintro e wB ⟨rfl, ht⟩
                have HTB := Lib.hid (HTa.out.trans' ht)
                clear ht k0 k1' k2' hlk HTa
                obtain ⟨k0, k1', k2', _, _, _, hlk, _, _⟩ := (HLA.out.touch HTB.out).c3 14 rfl
                go_wp2_with fail
                refine (HLI.out wB).mono ?_
                rintro e wb ⟨rfl, ht⟩
                have HTb := Lib.hid (HTB.out.trans' ht)
                clear ht
                go_wp2_with fail
                refine (HOV.out wb HTb.out 1 (by omega)).mono ?_
                rintro e wC ⟨rfl, ht⟩
                have HLC := Lib.hid (HLA.out.touch (HTb.out.trans' ht))
                clear ht k0 k1' k2' hlk HLA HOV HTB HTb HLI
                obtain ⟨y0', y1', y2', y3', y4', y5', y6', y7', _, hlx⟩ := HLC.out.c8' 12 rfl
                obtain ⟨z0', z1', z2', z3', z4', z5', z6', z7', _, hlz⟩ := HLC.out.c8' 5 rfl
                have HPX1 := Lib.hid (fun W (hW : P3 W) => HX13.out.2.2.2.2 W hW)
                have HPX2 := Lib.hid (fun W (hW : P3 W) => HX23.out.2.2.2.2 W hW)
                have HPY1 := Lib.hid (fun W (hW : P3 W) => HY1.out.2.2.2.2 W hW)
                have HPY2 := Lib.hid (fun W (hW : P3 W) => HY2.out.2.2.2.2 W hW)
                have HSR := Lib.hid (have hC := HLC.out.still 4 rfl; Same_ref14 wC at_ b1 b2 o1 o2 k1 k2 m1 m2 ss1 ss2 ts1 ts2 (HPX1.out _ hC).2.1 (HPX2.out _ hC).2.1 (HPY1.out _ hC).2.1 (HPY2.out _ hC).2.1 (fun r hr => ⟨(HPX1.out _ hC).2.2 r hr, HX13.out.rnodes r hr⟩) (fun r hr => ⟨(HPX2.out _ hC).2.2 r hr, HX23.out.rnodes r hr⟩) (fun r hr => ⟨(HPY1.out _ hC).2.2 r hr, HY1.out.rnodes r hr⟩) (fun r hr => ⟨(HPY2.out _ hC).2.2 r hr, HY2.out.rnodes r hr⟩)
                  (by have := HX13.out.len; have := HX13.out.2.2.1; omega) (by have := HX23.out.len; have := HX23.out.2.2.1; omega) (by have := HY1.out.len; have := HY1.out.2.2.1; omega) (by have := HY2.out.len; have := HY2.out.2.2.1; omega))
                rw [rc14_eq, rc14_eq] at HSR
                go_wp2_with fail
                refine HSR.out.mono ?_
                rintro e wD ⟨cr, rfl, hcr, ht⟩
                have HLD := Lib.hid (HLC.out.touch ht)
                have HCR := Lib.hid hcr
                clear ht hcr HLC HSR y0' y1' y2' y3' y4' y5' y6' y7' hlx z0' z1' z2' z3' z4' z5' z6' z7' hlz
                obtain ⟨y0', y1', y2', y3', y4', y5', y6', y7', _, hlx⟩ := HLD.out.c8' 12 rfl
                obtain ⟨z0', z1', z2', z3', z4', z5', z6', z7', _, hlz⟩ := HLD.out.c8' 5 rfl
                have HEX1 : Hid (∀ W, P3 W → ∀ e ∈ fs1, e.v.In W ∧ e.v.nodes ≤ 256) := fun W hW e he => ⟨(HPX1.out W hW).1 e he, HX13.out.2.2.2.1 e he⟩
                have HEX2 : Hid (∀ W, P3 W → ∀ e ∈ fs2, e.v.In W ∧ e.v.nodes ≤ 256) := fun W hW e he => ⟨(HPX2.out W hW).1 e he, HX23.out.2.2.2.1 e he⟩
                have HEY1 : Hid (∀ W, P3 W → ∀ e ∈ gs1, e.v.In W ∧ e.v.nodes ≤ 256) := fun W hW e he => ⟨(HPY1.out W hW).1 e he, HY1.out.2.2.2.1 e he⟩
                have HEY2 : Hid (∀ W, P3 W → ∀ e ∈ gs2, e.v.In W ∧ e.v.nodes ≤ 256) := fun W hW e he => ⟨(HPY2.out W hW).1 e he, HY2.out.2.2.2.1 e he⟩
                have HSA := Lib.hid (fun W (hW : Touch [] wD W) => (have h := HLD.out.touch hW; have hC := h.still 4 rfl; Same_ch W c' at_ M' q1' q2' d' N' p1' p2' fs1 fs2 gs1 gs2 (h.chAt 8 9 rfl rfl) (h.chAt 0 1 rfl rfl) (HSP3.out _ hC) (fun k hk => turns14 W c' at_ M' q1' q2' d' N' p1' p2' fs1 fs2 gs1 gs2 (h.chAt 8 9 rfl rfl) (h.chAt 0 1 rfl rfl) (h.qAt 10 rfl) (h.qAt 11 rfl) (h.qAt 2 rfl) (h.qAt 3 rfl) (HEX1.out _ hC) (HEX2.out _ hC) (HEY1.out _ hC) (HEY2.out _ hC) HX13.out.2.2.1 HX23.out.2.2.1 k hk)))
                have HSB := Lib.hid (fun W (hW : Touch [] wD W) => (have h := HLD.out.touch hW; have hC := h.still 4 rfl; Same_ch W d' at_ N' p1' p2' c' M' q1' q2' gs1 gs2 fs1 fs2 (h.chAt 0 1 rfl rfl) (h.chAt 8 9 rfl rfl) (HSP3.out _ hC) (fun k hk => turns14 W d' at_ N' p1' p2' c' M' q1' q2' gs1 gs2 fs1 fs2 (h.chAt 0 1 rfl rfl) (h.chAt 8 9 rfl rfl) (h.qAt 2 rfl) (h.qAt 3 rfl) (h.qAt 10 rfl) (h.qAt 11 rfl) (HEY1.out _ hC) (HEY2.out _ hC) (HEX1.out _ hC) (HEX2.out _ hC) HY1.out.2.2.1 HY2.out.2.2.1 k hk)))
                have HEQ : Hid (cr = true ↔ fs1.map ME.plain = gs1.map ME.plain ∧ fs2.map ME.plain = gs2.map ME.plain) := by
                  have h1 := HCR.out
                  rw [← HX13.out.1, ← HX23.out.1, ← HY1.out.1, ← HY2.out.1] at h1
                  exact h1
                go_wp2_with fail
                refine (HSA.out wD (Touch.refl [] wD)).mono ?_
                rintro e wE ⟨c3, rfl, hc3, ht⟩
                obtain rfl : c3 = cr := by
                  have h1 := hc3.trans HEQ.out.symm
                  cases c3 <;> cases cr <;> simp_all
                have HTE := Lib.hid ht
                clear ht hc3 y0' y1' y2' y3' y4' y5' y6' y7' hlx z0' z1' z2' z3' z4' z5' z6' z7' hlz
                obtain ⟨y0', y1', y2', y3', y4', y5', y6', y7', _, hlx⟩ := (HLD.out.touch HTE.out).c8' 12 rfl
                obtain ⟨z0', z1', z2', z3', z4', z5', z6', z7', _, hlz⟩ := (HLD.out.touch HTE.out).c8' 5 rfl
                have hcc : (c3 == c3) = true := by simp
                go_wp2_with fail
                refine (HSB.out wE HTE.out).mono ?_
                rintro e wF ⟨c4, rfl, hc4, ht⟩
                obtain rfl : c4 = c3 := by
                  have h1 := hc4.trans (⟨fun h => ⟨h.1.symm, h.2.symm⟩, fun h => ⟨h.1.symm, h.2.symm⟩⟩ : (gs1.map ME.plain = fs1.map ME.plain ∧ gs2.map ME.plain = fs2.map ME.plain) ↔ (fs1.map ME.plain = gs1.map ME.plain ∧ fs2.map ME.plain = gs2.map ME.plain))
                  have h2 := h1.trans HEQ.out.symm
                  cases c3 <;> cases c4 <;> simp_all
                have HLF := Lib.hid (HLD.out.touch (HTE.out.trans' ht))
                clear ht hc4 HLD y0' y1' y2' y3' y4' y5' y6' y7' hlx z0' z1' z2' z3' z4' z5' z6' z7' hlz HSA HSB
                go_wp2_with fail
                refine (works14 _ (HSP3.out _ (HLF.out.still 4 rfl))).mono ?_
                rintro e wG ⟨rfl, ht⟩
                have HLG := Lib.hid (HLF.out.touch ht)
                clear ht
                go_wp2
                go_ret
                exact ⟨rfl, (HLG.out.oldTouch (HO3.out _ (HLG.out.still 4 rfl))).below⟩
end Go.Proofs.YtihmbgdkllmkaaaDoor
