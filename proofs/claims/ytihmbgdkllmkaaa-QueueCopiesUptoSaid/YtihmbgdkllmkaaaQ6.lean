/-
  Layer 13: the iterator that All makes (queue.go), and a loop over it.
-/
import Derived.Test.YtihmbgdkllmkaaaQ5
import Derived.Test.YtihmbgdkllmkaaaRangeC
import Derived.LoopIn
namespace Go.Proofs.Ytihmbgdkllmkaaa
open Go.RowKit Go.Shelf
set_option maxRecDepth 100000
set_option linter.unusedVariables false
set_option linter.unusedSimpArgs false
attribute [local go_sem] Oper.semAt_some

/-- What lies there of an iterator of All. -/
def AllAt (w : World) (bx : Nat) (a : Option Addr) (cap : Nat) (ys : List ME) : Prop := Blk w bx 32 #[.slice a ys.length cap] ∧ EntsAt w a ys ∧ ∀ y ∈ ys, y.v.In w
theorem Led.allAt {T : List Nat} {w0 w : World} {l : List Thing} {bx : Nat} {a : Option Addr} {cap : Nat} {ys : List ME} (h : Led T w0 w l) (i : Nat) (hi : l[i]? = some (allT bx (.slice a ys.length cap) ys)) : AllAt w bx a cap ys := by
  obtain ⟨f, ⟨_, h2, h3, h4⟩, _⟩ := h.get i hi
  exact ⟨h2, ents_of_rowS h3, h4⟩

theorem callsIn_name {F : Fence} {n : Nat} {P : Program} {f : FuncId} {args : Array Value} {Q : Ending → World → Prop} {W : World} (h : ∀ w2, W = w2 → CallsIn F n P f args w2 Q) : CallsIn F n P f args W Q := h W rfl
set_option maxHeartbeats 2000000 in
theorem all_iter (n l bx : Nat) (a : Option Addr) (cap : Nat) (ys : List ME) (hL : ys.length ≤ 1048576) (hnn : ∀ y ∈ ys, y.v.nodes ≤ 256) (J : Nat → World → Prop) (J1 : Nat → ME → World → Prop) (Jx : World → Prop)
    (hmem : ∀ k W, J k W → AllAt W bx a cap ys)
    (hmv : ∀ k W W' x, J k W → Touch [] W W' → x.v.In W' → (∀ b ∈ x.v.blocks, W.heap.size ≤ b) → (ys.map ME.plain)[k]? = some x.plain → J1 k x W')
    (hY : ∀ (k : Nat) (x : ME) (W : World), k < ys.length → J1 k x W → YieldAt Fence.wide (n - 1) Try.prog l #[.int .i64 (k : Int), x.val] W (Told (J (k + 1)) Jx))
    (W : World) (h0 : J 0 W) :
    CallsIn Fence.wide n Try.prog 69 #[.func (.yield l) #[] #[], .pointer (some ⟨bx, 0, none⟩)] W (IterEnd (fun k => k = ys.length) J Jx) := by
  refine callsIn_of_wp Try.func69 rfl trivial ?_ rfl
  simp only [Try.ntmps69, List.size_toArray, List.length_cons, List.length_nil, Nat.reduceAdd, Nat.reduceSub, Array.replicate_succ, Array.replicate_zero, List.push_toArray, List.append_toArray, List.nil_append, List.cons_append]
  have HM := Lib.hid hmem
  have HY := Lib.hid hY
  have HMV := Lib.hid hmv
  have HNN := Lib.hid hnn
  obtain ⟨b1, b2, b3⟩ := hmem 0 W h0
  have q1 := b1.cell 0
  simp at q1
  clear hmem hY hmv hnn b1 b2 b3
  gi_wp2
  gi_loopw [7] (fun i wr => ∃ k : Nat, i = .int .i64 (k : Int) ∧ J k wr ∧ k ≤ ys.length) (fun i _ => ys.length - (intOf i).toNat)
  case atStart => exact ⟨0, rfl, h0, Nat.zero_le _⟩
  case round =>
    obtain ⟨k, rfl, hj, hk⟩ := hrel
    have hk0 : (0 : Int) ≤ (k : Int) := by omega
    by_cases hlt : k < ys.length
    · have hlt' : (k : Int) < (ys.length : Int) := by omega
      obtain ⟨b1, b2, b3⟩ := HM.out _ _ hj
      obtain ⟨b, o, rfl, hb, p0, p1, p2, p3, p4, p5, p6⟩ := b2 k hlt
      have HI : Hid (ys[k].v.In wr ∧ ys[k].v.nodes ≤ 256) := ⟨b3 _ (List.getElem_mem hlt), HNN.out _ (List.getElem_mem hlt)⟩
      have HXJ : Hid ((ys.map ME.plain)[k]? = some ys[k].plain) := by unfold Hid; simp [hlt]
      generalize ys[k] = x at p0 p1 p2 p3 p4 p5 p6 HI HXJ
      have HJ := Lib.hid hj
      clear b1 b2 b3 hj
      gi_wp2_with fail
      refine ⟨trivial, nodepth, ?_⟩
      refine callsIn_name ?_
      intro w2 hw2
      have HT2 : Hid (Touch [] wr w2) := hw2 ▸ (Touch.refl [] wr).alloc _
      clear hw2 p0 p1 p2 p3 p4 p5 p6 hb
      refine (callsIn_wide.2 (copyEntry_q x w2 (HI.out.1.touch0 HT2.out) HI.out.2)).mono ?_
      rintro e w4 ⟨x', rfl, hpl, hxin, hnew, ht⟩
      have hy0 := HY.out k x' w4 hlt (HMV.out k wr w4 x' HJ.out (HT2.out.trans' ht) hxin (fun b hb => Nat.le_trans HT2.out.size (hnew b hb)) (by rw [hpl]; exact HXJ.out))
      clear hpl hxin hnew ht
      simp only [ent_eq] at hy0 ⊢
      obtain ⟨fn, tmps, assign, body, hy, hR⟩ := hy0
      have HR := Lib.hid hR
      clear hR
      gi_wp2_with fail
      refine ⟨nodepth, HR.out.mono ?_⟩
      rintro e W2 (⟨rfl, hj2⟩ | ⟨rfl, hj2⟩)
      · have HJ2 := Lib.hid hj2
        clear hj2 hy
        gi_wp2
        go_roundw
        case rel => exact ⟨k + 1, by go_num, HJ2.out, hlt⟩
        case measure => simp [intOf]; omega
      · have HJ2 := Lib.hid hj2
        clear hj2 hy
        gi_wp2
        refine bodyPost_ret (results_none rfl _ _ _) rfl ?_
        exact ⟨⟨_, rfl⟩, .inr HJ2.out⟩
    · obtain rfl : k = ys.length := by omega
      have hlt' : ¬ ((ys.length : Nat) : Int) < (ys.length : Int) := by omega
      have HJ := Lib.hid hj
      clear hj
      gi_wp2
      go_end0
      exact ⟨⟨_, rfl⟩, .inl ⟨_, rfl, HJ.out⟩⟩

/-- A loop over what All made: R k: what lies there when k entries have come. -/
theorem range_allL {n : Nat} {gop : Operand} {ps : Array Tmp} {assign body : Code} {Q : Exit → Act → World → Prop} {a : Act} {w w0 : World} {T : List Nat} {bx : Nat} {ra : Option Addr} {rc : Nat} {ys : List ME}
    (hg : a.eval gop = .func (.func 69) #[] #[.pointer (some ⟨bx, 0, none⟩)])
    (hps : ps.size = 2) (hL : ys.length ≤ 1048576) (hnn : ∀ y ∈ ys, y.v.nodes ≤ 256) (R : Nat → List Thing) (X : Code → List Thing → Prop) (i : Nat) (hi : ∀ k, (R k)[i]? = some (allT bx (.slice ra ys.length rc) ys)) (h0 : Led T w0 w (R 0))
    (hround : ∀ (k : Nat) (x : ME) (W : World) (o0 : Obj), k < ys.length → (ys.map ME.plain)[k]? = some x.plain → Led T w0 W (R k ++ [valsT [x.v]] ++ marks w.heap.size o0) →
      assign.wpIn (Fence.wide.inRound (w.heap.size + 1)) (n - 1 - 1) Try.prog (Exit.then (fun a1 W1 => ∃ m, Led T w0 W1 (R k ++ [valsT [x.v]] ++ marks w.heap.size o0 ++ m) ∧
        ∀ W2 o, Led T w0 W2 (R k ++ [valsT [x.v]] ++ marks w.heap.size o ++ m) → body.wpIn (Fence.wide.inRound (w.heap.size + 1)) (n - 1 - 1) Try.prog (bodyL T w0 w.heap.size o (R (k + 1)) X) a1 W2) (fun _ _ _ => False))
        { tmps := (ps.zip #[.int .i64 (k : Int), x.val]).foldl (fun t (p, v) => t.setIfInBounds p v) a.tmps, defers := [] } W)
    (hdone : ∀ W, Led T w0 W (R ys.length ++ marks1 w.heap.size) → Q .normal { a with defers := { target := .collected w.heap.size, args := #[] } :: a.defers } W)
    (hstop : ∀ c W lx, X c lx → Led T w0 W (lx ++ marks1 w.heap.size) → c.wpIn Fence.wide n Try.prog Q { a with defers := { target := .collected w.heap.size, args := #[] } :: a.defers } W) :
    (Code.rangeFunc gop ps assign body).wpIn Fence.wide n Try.prog Q a w := by
  refine wp_rangeL (β := Nat × Option ME) hg (enters_of Try.func69 (by kernel_rfl) rfl) (fun b => match b.2 with | none => R b.1 | some x => R b.1 ++ [valsT [x.v]]) X (fun b => b = (ys.length, none))
    (fun b xs b' => ∃ x, b.2 = some x ∧ b.1 < ys.length ∧ (ys.map ME.plain)[b.1]? = some x.plain ∧ xs = #[.int .i64 (b.1 : Int), x.val] ∧ b' = (b.1 + 1, none))
    (fun b xs b' ⟨_, _, _, _, hx, _⟩ => by rw [hx, hps]; rfl) (0, none) h0 ?_ ?_ (fun b W hF hj => by subst hF; exact hdone W hj) hstop
  · rintro ⟨k, ox⟩ xs b' W o0 ⟨x, rfl, hk, hp, rfl, rfl⟩ hj
    exact hround k x W o0 hk hp hj
  · intro J' Jx' hJ hC hY W hW'
    have hmk : ∀ k W, J' (k, none) W → w.heap.size + 1 < W.heap.size := fun k W h => by
      obtain ⟨o', h2⟩ := (hJ (k, none) W h).exact_of_some
      exact (Array.getElem?_eq_some_iff.1 (Led.at_mark (m := []) (by simpa using h2)).2).1
    refine CallsIn.mono (all_iter (n - 1) (w.heap.size + 1) bx ra rc ys hL hnn (fun k W => J' (k, none) W) (fun k x W => J' (k, some x) W ∧ (ys.map ME.plain)[k]? = some x.plain) Jx' (fun k W h => (hJ _ W h).allAt i (by rw [List.getElem?_append_left (List.getElem?_eq_some_iff.1 (hi k)).1]; exact hi k)) ?_ ?_ W hW') ?_
    · intro k W W' x h ht hin hb hp
      refine ⟨hC (k, none) W (k, some x) W' h ?_ ?_, hp⟩
      · have h1 := (hJ _ W h).valsNew (vs := [x.v]) ht (by simpa using hin) (by simpa using hb)
        exact h1.swapEnd
      · have hlt := hmk k W h
        exact ⟨ht.block _ (by omega) (by simp), ht.block _ hlt (by simp)⟩
    · rintro k x W hk ⟨h, hp⟩
      exact hY (k, some x) _ (k + 1, none) W ⟨x, rfl, hk, hp, rfl, rfl⟩ h
    · rintro e W ⟨hv, ⟨k, hk, hj⟩ | hx⟩
      · exact ⟨hv, .inl ⟨(k, none), by rw [hk], hj⟩⟩
      · exact ⟨hv, .inr hx⟩
end Go.Proofs.Ytihmbgdkllmkaaa
