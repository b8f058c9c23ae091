/-
  Texts 3 of 5 that CondCopies rests on, laid together by program: Ref01, Spin, ArT, RDo, RDo2, RDo3, RT, RGo, R03, R15b, W13, QueueSameW, QueueFullW, Cond1, Cond2, Loose, FrameN, Cond3, R13e.
-/
import Derived.Test.YtihmbgdkllmkaaaCc1
import Derived.Test.YtihmbgdkllmkaaaCc2
import Derived.Deep.Cut
import Derived.Deep.RegionHeld3
import Derived.Laws.CopyOwn
/-
  The reference of law 01 (betrothalref01): its arena as a value; New, Alloc, Do, Last.
-/
namespace Go.Proofs.Ytihmbgdkllmkaaa
open Go.RowKit Go.Shelf
set_option maxRecDepth 100000
set_option linter.unusedVariables false

/-- The reference's arena as a value. -/
def refV (vc : Value) (most : Nat) (vl : Value) : Value := .agg #[vc, .int .i64 (most : Int), vl]
/-- What its two slices hold. -/
structure RefAt (w : World) (vc vl : Value) (s : Ar) : Prop where
  cel : w.ownsRow 0 127 1 vc s.C.length (words s.C)
  log : w.ownsRow 0 175 5 vl s.L.length (accCells s.L)
  clen : s.C.length ≤ 65536
  most : s.most ≤ 65536
theorem RefAt.touch {w w' : World} {vc vl : Value} {s : Ar} (h : RefAt w vc vl s) (ht : Touch [] w w') : RefAt w' vc vl s := ⟨own_touch h.cel ht (by simp), own_touch h.log ht (by simp), h.clen, h.most⟩
theorem RefAt.keep {w w' : World} {vc vl : Value} {s : Ar} (h : RefAt w vc vl s) (hs : ∀ b ∈ sb vc ++ sb vl, w'.heap[b]? = w.heap[b]?) : RefAt w' vc vl s :=
  ⟨own_keep h.cel (fun b hb => hs b (List.mem_append_left _ hb)), own_keep h.log (fun b hb => hs b (List.mem_append_right _ hb)), h.clen, h.most⟩
theorem words_one (l : List Nat) : ∀ u ∈ words l, u.oneCell' = true := by
  intro u hu
  simp only [words, List.mem_map] at hu
  obtain ⟨n, _, rfl⟩ := hu
  rfl
theorem accs_one (l : List Acc) : ∀ u ∈ accCells l, u.oneCell' = true := by
  intro u hu
  simp only [accCells, List.mem_flatMap] at hu
  obtain ⟨x, _, hx⟩ := hu
  exact acc_one x u hx

theorem own_empty (W : World) (e : TypeId) (size : Nat) : (W.alloc (.cells #[] e)).ownsRow 0 e size (.slice (some ⟨W.heap.size, 0, none⟩) 0 0) 0 [] :=
  ⟨by simp, .inr ⟨W.heap.size, 0, #[], rfl, Nat.zero_le _, heap_alloc_new W _, Nat.le_refl _, by simp [maxLen], by simp, by simp⟩⟩

set_option maxHeartbeats 1000000 in
theorem refAlloc (w : World) (vc vl : Value) (s : Ar) (n : Int) (h : RefAt w vc vl s) : Calls Try.prog 90 #[refV vc s.most vl, .int .i64 n] w fun e w' =>
    ∃ vc', e = .returned (.tuple #[refV vc' s.most vl, .int .i64 ((s.allocA n).2.1 : Int), .int .i64 ((s.allocA n).2.2 : Int)]) ∧ RefAt w' vc' vl (s.allocA n).1 ∧ Touch [] w w' ∧ ∀ b ∈ sb vc', b ∈ sb vc ∨ w.heap.size ≤ b := by
  obtain ⟨i0, hi, hz0, hz1, hz2⟩ := info_parts info_uint64
  obtain ⟨aa, cp, rfl, hc1, hc2⟩ := own_val h.cel
  obtain ⟨la, lp, rfl, hl1, hl2⟩ := own_val h.log
  have HA := Lib.hid h
  have hcl := h.clen
  have hml := h.most
  clear h
  unfold refV
  by_cases hn : n < 0
  · have hv : s.allocA n = (s, 0, 2) := by simp [Ar.allocA, hn]
    rw [hv]
    go_enter Try.func90, Try.ntmps90
    go_wp2
    refine bodyPost_ret (v := .tuple #[.agg #[.slice aa s.C.length cp, .int .i64 (s.most : Int), .slice la s.L.length lp], .int .i64 0, .int .i64 2]) (by simp [results, Try.results90, go_sem]) rfl ?_
    refine ⟨_, rfl, HA.out.touch ?_, ?_, fun b hb => .inl hb⟩
    all_goals exact ((Touch.refl [] w).alloc _).alloc _
  · by_cases hf : (s.most : Int) - (s.C.length : Int) < n
    · have hv : s.allocA n = (s, 0, 6) := by simp [Ar.allocA, hn, hf]
      rw [hv]
      go_enter Try.func90, Try.ntmps90
      go_wp2
      refine bodyPost_ret (v := .tuple #[.agg #[.slice aa s.C.length cp, .int .i64 (s.most : Int), .slice la s.L.length lp], .int .i64 0, .int .i64 6]) (by simp [results, Try.results90, go_sem]) rfl ?_
      refine ⟨_, rfl, HA.out.touch ?_, ?_, fun b hb => .inl hb⟩
      all_goals exact ((Touch.refl [] w).alloc _).alloc _
    · obtain ⟨k, rfl⟩ := Int.eq_ofNat_of_zero_le (Int.not_lt.1 hn)
      have hv : s.allocA (k : Int) = ({ s with C := s.C ++ List.replicate k 0 }, s.C.length, 0) := by simp [Ar.allocA, hn, hf]
      rw [hv]
      have hk : s.C.length + k ≤ s.most := by omega
      have HB : Hid (Blk (((w.alloc (.cells #[.slice aa s.C.length cp, .int .i64 (s.most : Int), .slice la s.L.length lp] 101)).alloc (.cells #[.slice none 0 0, .int .i64 0, .slice none 0 0] 101)).alloc (.cells #[] 127)) w.heap.size 101 #[.slice aa s.C.length cp, .int .i64 (s.most : Int), .slice la s.L.length lp]) :=
        ((Blk.new w _ _).alloc _).alloc _
      have HR : Hid (Blk (((w.alloc (.cells #[.slice aa s.C.length cp, .int .i64 (s.most : Int), .slice la s.L.length lp] 101)).alloc (.cells #[.slice none 0 0, .int .i64 0, .slice none 0 0] 101)).alloc (.cells #[] 127)) (w.heap.size + 1) 101 #[.slice none 0 0, .int .i64 0, .slice none 0 0]) := by
        have := (Blk.new (w.alloc (.cells #[.slice aa s.C.length cp, .int .i64 (s.most : Int), .slice la s.L.length lp] 101)) 101 #[.slice none 0 0, .int .i64 0, .slice none 0 0]).alloc (.cells #[] 127)
        rw [World.size_alloc] at this
        exact this
      have HT0 : Hid (Touch [] w (((w.alloc (.cells #[.slice aa s.C.length cp, .int .i64 (s.most : Int), .slice la s.L.length lp] 101)).alloc (.cells #[.slice none 0 0, .int .i64 0, .slice none 0 0] 101)).alloc (.cells #[] 127))) := (((Touch.refl [] w).alloc _).alloc _).alloc _
      have HE : Hid ((((w.alloc (.cells #[.slice aa s.C.length cp, .int .i64 (s.most : Int), .slice la s.L.length lp] 101)).alloc (.cells #[.slice none 0 0, .int .i64 0, .slice none 0 0] 101)).alloc (.cells #[] 127)).ownsRow 0 127 1 (.slice (some ⟨w.heap.size + 1 + 1, 0, none⟩) 0 0) 0 []) := by
        have := own_empty ((w.alloc (.cells #[.slice aa s.C.length cp, .int .i64 (s.most : Int), .slice la s.L.length lp] 101)).alloc (.cells #[.slice none 0 0, .int .i64 0, .slice none 0 0] 101)) 127 1
        rw [World.size_alloc, World.size_alloc] at this
        exact this
      have hbl : w.heap.size < w.heap.size + 1 + 1 := by omega
      clear hv hl1 hl2 hc1 hc2
      go_enter Try.func90, Try.ntmps90
      go_wp2_with (at_builtin; go_must (refine wpList_append_src _ rfl (.tmp 23) (.tmp 25) 98 rfl 127 i0 (.int .u64 0) 1 8 Try.underlying98 hi hz0 hz1 hz2 rfl (by decide) (.slice (some ⟨w.heap.size + 1 + 1, 0, none⟩) 0 0) 0 [] rfl HE.out (.slice aa s.C.length cp) s.C.length (words s.C) rfl (own_touch HA.out.cel HT0.out (by simp)) (words_one _) (by simp only [maxLen]; omega) (by omega) ?_); intro a1 c1 w1 hown hgrow hat; refine Hid.out ?_)
      rw [Nat.zero_add, List.nil_append] at hown
      rw [Nat.zero_add] at hat
      have HT1 : Hid (Touch [] w w1) := HT0.out.grown hgrow (fun j hj => .inr (by simp [Value.ownBlock] at hj; omega))
      have HB1 : Hid (Blk w1 w.heap.size 101 #[.slice aa s.C.length cp, .int .i64 (s.most : Int), .slice la s.L.length lp]) := HB.out.grown hgrow (by simp [Value.ownBlock]; omega)
      have HR1 : Hid (Blk w1 (w.heap.size + 1) 101 #[.slice none 0 0, .int .i64 0, .slice none 0 0]) := HR.out.grown hgrow (by simp [Value.ownBlock])
      have HO1 := Lib.hid hown
      have HN1 : Hid (∀ j ∈ sb (.slice a1 s.C.length c1), w.heap.size ≤ j) := by
        intro j hj
        rcases hat with h1 | h1
        · rw [sb, h1] at hj
          have : j = w.heap.size + 1 + 1 := by simpa [Value.ownBlock] using hj
          omega
        · rw [sb, h1] at hj
          have : j = w.heap.size + 1 + 1 + 1 := by simpa using hj
          omega
      clear hown hgrow hat HB HE HT0 HR
      refine Lib.hid ?_
      go_wp2_with (at_builtin; go_must (refine wpList_append_zeros _ rfl (.tmp 26) (.tmp 27) 98 3 rfl 127 i0 (.int .u64 0) .i64 .i64 Try.underlying98 Try.underlying3 hi hz0 hz1 hz2 rfl rfl (.slice a1 s.C.length c1) s.C.length (words s.C) rfl HO1.out k rfl (by omega) ?_); intro a2 c2 w2 hown hgrow hat; refine Hid.out ?_)
      have HT2 : Hid (Touch [] w w2) := HT1.out.grown hgrow (fun j hj => .inr (HN1.out j (by simp [sb, hj])))
      have hn0 : w.heap.size ∉ sb (.slice a1 s.C.length c1) := own_ne HO1.out HB1.out (by decide)
      have HB2 : Hid (Blk w2 w.heap.size 101 #[.slice aa s.C.length cp, .int .i64 (s.most : Int), .slice la s.L.length lp]) := HB1.out.grown hgrow (fun hc => hn0 (by simp [sb, ← hc]))
      have HR2 : Hid (Blk w2 (w.heap.size + 1) 101 #[.slice none 0 0, .int .i64 0, .slice none 0 0]) := HR1.out.grown hgrow (fun hc => own_ne HO1.out HR1.out (by decide) (by simp [sb, ← hc]))
      have HO2 := Lib.hid hown
      have HN2 : Hid (∀ j ∈ sb (.slice a2 (s.C.length + k) c2), w.heap.size ≤ j) := by
        intro j hj
        rcases hat with h1 | h1
        · exact HN1.out j (by rw [sb, ← h1]; exact hj)
        · rw [sb, h1] at hj
          have : j = w1.heap.size := by simpa using hj
          have := HT1.out.size
          omega
      have b0 := HB2.out.cell 0
      have b1 := HB2.out.cell 1
      have b2 := HB2.out.cell 2
      have r0 := HR2.out.cell 0
      have r1 := HR2.out.cell 1
      have r2 := HR2.out.cell 2
      have g0 := HB2.out.frozen 0
      have e0 := HR2.out.frozen 0
      have e1 := HR2.out.frozen 1
      have e2 := HR2.out.frozen 2
      simp at b0 b1 b2 r0 r1 r2
      clear hown hgrow hat hn0 HB1 HR1 HT1
      refine Lib.hid ?_
      go_wp2
      have hf := (((HR2.out.far (p := ⟨w.heap.size, 0, none⟩) (by simp) (.slice a2 (s.C.length + k) c2)).set 0 (.slice a2 (s.C.length + k) c2)).set 1 (.int .i64 (s.most : Int))).set 2 (.slice la s.L.length lp)
      have q0 := hf.cell 0
      have q1 := hf.cell 1
      have q2 := hf.cell 2
      simp at q0 q1 q2
      have HTF : Hid (Touch [] w ((((w2.setCell ⟨w.heap.size, 0, none⟩ (.slice a2 (s.C.length + k) c2)).setCell ⟨w.heap.size + 1, 0, none⟩ (.slice a2 (s.C.length + k) c2)).setCell ⟨w.heap.size + 1, 1, none⟩ (.int .i64 (s.most : Int))).setCell ⟨w.heap.size + 1, 2, none⟩ (.slice la s.L.length lp))) :=
        (((HT2.out.setCell ⟨w.heap.size, 0, none⟩ _ (.inr (Nat.le_refl _))).setCell ⟨w.heap.size + 1, 0, none⟩ _ (.inr (Nat.le_succ _))).setCell ⟨w.heap.size + 1, 1, none⟩ _ (.inr (Nat.le_succ _))).setCell ⟨w.heap.size + 1, 2, none⟩ _ (.inr (Nat.le_succ _))
      have n0 := own_ne HO2.out HB2.out (by decide)
      have n1 := own_ne HO2.out HR2.out (by decide)
      refine bodyPost_ret (v := .tuple #[.agg #[.slice a2 (s.C.length + k) c2, .int .i64 (s.most : Int), .slice la s.L.length lp], .int .i64 (s.C.length : Int), .int .i64 0]) (by simp [results, Try.results90, go_sem, q0, q1, q2]) rfl ?_
      refine ⟨_, rfl, ⟨?_, own_touch HA.out.log HTF.out (by simp), by simp; omega, hml⟩, HTF.out, fun b hb => .inr (HN2.out b hb)⟩
      have := own_setCell (own_setCell (own_setCell (own_setCell HO2.out ⟨w.heap.size, 0, none⟩ (.slice a2 (s.C.length + k) c2) n0) ⟨w.heap.size + 1, 0, none⟩ (.slice a2 (s.C.length + k) c2) n1) ⟨w.heap.size + 1, 1, none⟩ (.int .i64 (s.most : Int)) n1) ⟨w.heap.size + 1, 2, none⟩ (.slice la s.L.length lp) n1
      simp only [List.length_append, List.length_replicate, words_append, words_replicate]
      exact this
end Go.Proofs.Ytihmbgdkllmkaaa

/-
  Layer 3: New, Try, Free, Held (spin.go), at the plain model: for every arena that was made by New.
-/
namespace Go.Proofs.Ytihmbgdkllmkaaa
open Go.RowKit Go.Shelf
set_option maxRecDepth 100000
set_option linter.unusedVariables false

theorem wd0 : Wd 0 := by unfold Wd; omega
theorem wd1 : Wd 1 := by unfold Wd; omega

theorem doBy_err (s : Ar) (op : Nat) (at_ : Int) (chg : Nat → Nat × Bool) : (s.doBy op at_ chg).2.2 = 0 ∨ (s.doBy op at_ chg).2.2 = 4 ∧ (s.doBy op at_ chg).2.1 = Acc.zero := by
  unfold Ar.doBy
  split
  · exact .inl rfl
  · exact .inr ⟨rfl, rfl⟩

/-- Free: the arena then, an error. -/
def Ar.freeE (s : Ar) (at_ : Int) : Nat := if (s.swap at_ 1 0).2.2 = 0 then (if (s.swap at_ 1 0).2.1.did then 0 else 30) else (s.swap at_ 1 0).2.2
/-- Held: is it? -/
def Ar.heldB (s : Ar) (at_ : Int) : Bool := if (s.load at_).2.2 = 0 then (((s.load at_).2.1.old : Int) != 0) else false

section
variable (w : World) (g : Nat) (fp : List Nat) (s : Ar) (hI : IsAr w g fp s)
include hI
variable (at_ : Int) (hn : s.L.length < 4611686018427387904)
include hn
theorem Try_any : Calls Try.prog 83 #[.pointer (some ⟨g, 0, none⟩), .int .i64 at_] w fun e w' =>
    e = .returned (.tuple #[.bool (s.swap at_ 0 1).2.1.did, .int .i64 ((s.swap at_ 0 1).2.2 : Int)]) ∧ ArTo w w' g fp (s.swap at_ 0 1).1 := by
  have H := Lib.hid (Swap_any w g fp s at_ hI hn 0 1 wd0 wd1)
  clear hI hn
  go_enter Try.func83, Try.ntmps83
  go_wp2_with fail
  refine H.out.mono ?_
  rintro e w' ⟨rfl, h⟩
  have H2 := Lib.hid h
  clear h
  go_wp2
  go_ret2
  exact ⟨rfl, H2.out⟩
theorem Free_any : Calls Try.prog 85 #[.pointer (some ⟨g, 0, none⟩), .int .i64 at_] w fun e w' =>
    e = .returned (.int .i64 (s.freeE at_ : Int)) ∧ ArTo w w' g fp (s.swap at_ 1 0).1 := by
  have H := Lib.hid (Swap_any w g fp s at_ hI hn 1 0 wd1 wd0)
  clear hI hn
  have HE : Hid ((s.freeE at_ : Int) = (if (s.swap at_ 1 0).2.2 = 0 then (if (s.swap at_ 1 0).2.1.did then 0 else 30) else (s.swap at_ 1 0).2.2 : Nat)) := rfl
  rcases doBy_err s 3 at_ (chgSwap 1 0) with he | ⟨he, hz⟩
  · change (s.swap at_ 1 0).2.2 = 0 at he
    rw [he, if_pos rfl] at HE
    cases hd : (s.swap at_ 1 0).2.1.did with
    | true =>
      rw [hd, if_pos rfl] at HE
      go_enter Try.func85, Try.ntmps85
      go_wp2_with fail
      refine H.out.mono ?_
      rintro e w' ⟨rfl, h⟩
      have H2 := Lib.hid h
      clear h
      go_wp2
      go_ret
      exact ⟨by rw [HE.out]; rfl, H2.out⟩
    | false =>
      rw [hd, if_neg (by simp)] at HE
      go_enter Try.func85, Try.ntmps85
      go_wp2_with fail
      refine H.out.mono ?_
      rintro e w' ⟨rfl, h⟩
      have H2 := Lib.hid h
      clear h
      go_wp2
      go_ret
      exact ⟨by rw [HE.out]; rfl, H2.out⟩
  · change (s.swap at_ 1 0).2.2 = 4 at he
    rw [he, if_neg (by simp)] at HE
    go_enter Try.func85, Try.ntmps85
    go_wp2_with fail
    refine H.out.mono ?_
    rintro e w' ⟨rfl, h⟩
    have H2 := Lib.hid h
    clear h
    go_wp2
    go_ret
    exact ⟨by rw [HE.out]; rfl, H2.out⟩
end
end Go.Proofs.Ytihmbgdkllmkaaa

/-
  The arena of layer 1 as a thing of the ledger.
-/
namespace Go.Proofs.Ytihmbgdkllmkaaa
open Go.RowKit Go.Shelf
set_option linter.unusedVariables false

/-- The arena at g is s. -/
def arena (g : Nat) (s : Ar) : Thing where
  holds w fp := IsAr w g fp s
  keep := fun h he => h.keep he
  lt := fun h => h.lt
section
variable {T : List Nat} {w0 w w' : World} {l : List Thing} {g : Nat} {s s' : Ar}
theorem Led.isAr (h : Led T w0 w l) (i : Nat) (hi : l[i]? = some (arena g s)) : ∃ fp, IsAr w g fp s := let ⟨f, h, _⟩ := h.get i hi; ⟨f, h⟩
theorem Led.artAll (h : Led T w0 w l) (i : Nat) (hi : l[i]? = some (arena g s)) : (∀ n ∈ s.C, Wd n) ∧ 1 ≤ s.most ∧ s.most ≤ 65536 ∧ s.C.length ≤ s.most := by
  obtain ⟨f, ⟨v1, v2, r, hA, _⟩, _⟩ := h.get i hi
  exact ⟨hA.wd, hA.most1, hA.most2, hA.len⟩
/-- A call on an arena. -/
theorem Led.ar (h : Led T w0 w l) (i : Nat) (hi : l[i]? = some (arena g s)) {f : Nat} {args : Array Value} {R : Ending → Prop} (hc : ∀ fp, IsAr w g fp s → Calls Try.prog f args w fun e w' => R e ∧ ArTo w w' g fp s') :
    Calls Try.prog f args w fun e w' => R e ∧ Led T w0 w' (l.set i (arena g s')) := by
  obtain ⟨fp, hI, _, hs⟩ := h.step i hi
  refine (hc fp hI).mono ?_
  rintro e w' ⟨he, fp', hI', hM⟩
  exact ⟨he, hs w' (arena g s') fp' hI' ⟨hM.touch, hM.fp⟩⟩
/-- A call that reads an arena. -/
theorem Led.arq (h : Led T w0 w l) (i : Nat) (hi : l[i]? = some (arena g s)) {f : Nat} {args : Array Value} {R : Ending → World → Prop} (hc : ∀ fp, IsAr w g fp s → Calls Try.prog f args w R) : Calls Try.prog f args w R := by
  obtain ⟨fp, hI, _, _⟩ := h.step i hi
  exact hc fp hI
theorem Led.arNew (h : Led T w0 w l) (most : Nat) (h1 : 1 ≤ most) (h2 : most ≤ 65536) : Calls Try.prog 34 #[.int .i64 (most : Int)] w
    fun e w' => e = .returned (.tuple #[.pointer (some ⟨w.heap.size, 0, none⟩), .int .i64 0]) ∧ Led T w0 w' (l ++ [arena w.heap.size (Ar.fresh most)]) := by
  refine (New_ok most w h1 h2).mono ?_
  rintro e w' ⟨rfl, hI, ht⟩
  exact ⟨rfl, h.new (t' := arena w.heap.size (Ar.fresh most)) hI ⟨ht, fun k hk => .inr (by simp at hk; omega)⟩⟩
end
end Go.Proofs.Ytihmbgdkllmkaaa

/-
  The reference of law 01: Do.
-/
namespace Go.Proofs.Ytihmbgdkllmkaaa
open Go.RowKit Go.Shelf
set_option maxRecDepth 100000
set_option linter.unusedVariables false
set_option linter.unusedSimpArgs false

/-- What an access of the reference tells and leaves. -/
def RefDid (w : World) (vc vl : Value) (s : Ar) (r : Ar × Acc × Nat) (e : Ending) (w' : World) : Prop :=
  ∃ vc' vl', e = .returned (.tuple #[refV vc' s.most vl', r.2.1.val, .int .i64 (r.2.2 : Int)]) ∧ RefAt w' vc' vl' r.1 ∧ Touch [] w w' ∧ ∀ b ∈ sb vc' ++ sb vl', b ∈ sb vc ++ sb vl ∨ w.heap.size ≤ b

set_option maxHeartbeats 1000000 in
theorem refDo_out (w : World) (vc vl : Value) (s : Ar) (op : Nat) (at_ : Int) (x y : Int) (h : RefAt w vc vl s) (hat : ¬ (0 ≤ at_ ∧ at_ < (s.C.length : Int))) (chg : Nat → Nat × Bool) :
    Calls Try.prog 120 #[refV vc s.most vl, .int .i64 (op : Int), .int .i64 at_, .int .u64 x, .int .u64 y] w (RefDid w vc vl s (s.doBy op at_ chg)) := by
  obtain ⟨aa, cp, rfl, hc1, hc2⟩ := own_val h.cel
  obtain ⟨la, lp, rfl, hl1, hl2⟩ := own_val h.log
  have HA := Lib.hid h
  have hcl := h.clen
  clear h
  have hv : s.doBy op at_ chg = (s, Acc.zero, 4) := by simp only [Ar.doBy]; rw [if_neg hat]
  rw [hv]
  unfold refV
  clear hv
  go_enter Try.func120, Try.ntmps120
  by_cases h1 : at_ < 0
  · go_wp2
    refine bodyPost_ret (v := .tuple #[.agg #[.slice aa s.C.length cp, .int .i64 (s.most : Int), .slice la s.L.length lp], Acc.zero.val, .int .i64 4]) (by simp [results, Try.results120, go_sem, Acc.val, Acc.zero]) rfl ?_
    exact ⟨_, _, rfl, HA.out.touch ((((Touch.refl [] w).alloc _).alloc _).alloc _), (((Touch.refl [] w).alloc _).alloc _).alloc _, fun b hb => .inl hb⟩
  · have h2 : (s.C.length : Int) ≤ at_ := by omega
    go_wp2
    refine bodyPost_ret (v := .tuple #[.agg #[.slice aa s.C.length cp, .int .i64 (s.most : Int), .slice la s.L.length lp], Acc.zero.val, .int .i64 4]) (by simp [results, Try.results120, go_sem, Acc.val, Acc.zero]) rfl ?_
    exact ⟨_, _, rfl, HA.out.touch ((((Touch.refl [] w).alloc _).alloc _).alloc _), (((Touch.refl [] w).alloc _).alloc _).alloc _, fun b hb => .inl hb⟩

theorem own_one (W : World) (x : Acc) : (W.alloc x.box).ownsRow 0 175 5 (.slice (some ⟨W.heap.size, 0, none⟩) 1 1) 1 x.cells :=
  ⟨by simp [Acc.cells], .inr ⟨W.heap.size, 1, x.cells.toArray, rfl, Nat.zero_le _, heap_alloc_new W _, Nat.le_refl _, by simp [maxLen], by simp [Acc.cells], by simp [Acc.cells]⟩⟩


theorem own_box1 {W : World} {g : Nat} {x : Acc} (h : Blk W g 175 x.cells.toArray) : W.ownsRow 0 175 5 (.slice (some ⟨g, 0, none⟩) 1 1) 1 x.cells :=
  ⟨by simp [Acc.cells], .inr ⟨g, 1, x.cells.toArray, rfl, Nat.zero_le _, h, Nat.le_refl _, by simp [maxLen], by simp [Acc.cells], by simp [Acc.cells]⟩⟩
theorem Led.emptyR {T : List Nat} {w0 w : World} {l : List Thing} (h : Led T w0 w l) (e : TypeId) (size : Nat) : Led T w0 (w.alloc (.cells #[] e)) (l ++ [Proofs.Ytihmbgdkllmkaaa.row e size (.slice (some ⟨w.heap.size, 0, none⟩) 0 0) 0 []]) :=
  h.new (t' := Proofs.Ytihmbgdkllmkaaa.row e size (.slice (some ⟨w.heap.size, 0, none⟩) 0 0) 0 []) ⟨rfl, own_empty w e size⟩ ⟨(Touch.refl [] w).alloc _, fun k hk => .inr (by simp [sb, Value.ownBlock] at hk; omega)⟩
theorem Led.rowgeR {w0 w : World} {l : List Thing} (h : Led [] w0 w l) (i : Nat) {e : TypeId} {size : Nat} {v : Value} {n : Nat} {xs : List Value} (hi : l[i]? = some (Proofs.Ytihmbgdkllmkaaa.row e size v n xs)) : ∀ k ∈ sb v, w0.heap.size ≤ k := by
  obtain ⟨f, ⟨hf, _⟩, hg⟩ := h.get i hi
  subst hf
  exact fun k hk => (hg k hk).elim (fun h => by simp at h) id
theorem refDo_close {w WF : World} {vc vl cv lv : Value} {s : Ar} {l : List Thing} {x : Acc} (h : RefAt w vc vl s) (HL : Led [] w WF l) (h3 : l[3]? = some (row 127 1 cv s.C.length (words (s.C.set x.at_ x.new))))
    (h5 : l[5]? = some (row 175 5 lv (s.L.length + 1) (accCells s.L ++ x.cells))) {hq' : x.at_ < s.C.length} (hwas : s.C[x.at_] = x.old) (hq : x.at_ < s.C.length) :
    RefDid w vc vl s (s.acc x.op x.at_ x.new x.did, x, 0) (.returned (.tuple #[refV cv s.most lv, x.val, .int .i64 ((0 : Nat) : Int)])) WF := by
  have hg : s.C.getD x.at_ 0 = x.old := by simp [List.getD, hq, hwas]
  refine ⟨cv, lv, rfl, ⟨?_, ?_, ?_, h.most⟩, Touch.of_below HL.below [], ?_⟩
  · have := HL.row 3 h3
    simpa [Ar.acc] using this
  · have := HL.row 5 h5
    simp only [Ar.acc, hg, List.length_append, List.length_cons, List.length_nil, accCells_append]
    simpa [accCells] using this
  · simpa [Ar.acc] using h.clen
  · intro b hb
    rcases List.mem_append.1 hb with hb | hb
    · exact .inr (HL.rowgeR 3 h3 b hb)
    · exact .inr (HL.rowgeR 5 h5 b hb)

set_option maxHeartbeats 4000000 in
theorem refDo_load (w : World) (vc vl : Value) (s : Ar) (q : Nat) (was : Nat) (x y : Int) (h : RefAt w vc vl s) (hq : q < s.C.length) (HWAS : Hid (s.C[q] = was)) (hL : s.L.length ≤ 1048576) :
    Calls Try.prog 120 #[refV vc s.most vl, .int .i64 1, .int .i64 (q : Int), .int .u64 x, .int .u64 y] w (RefDid w vc vl s (s.acc 1 q was true, ⟨1, q, was, was, true⟩, 0)) := by
  obtain ⟨i0, hi, iz0, iz1, iz2⟩ := info_parts info_uint64
  obtain ⟨j0, hj, jz0, jz1, jz2⟩ := info_parts info_access
  obtain ⟨ca, cp, cur, rfl, hcur, hc1, hc2, hc3, hc4⟩ := own_form h.cel (by omega)
  obtain ⟨la, lp, rfl, hl1, hl2⟩ := own_val h.log
  have HA := Lib.hid h
  have hcl := h.clen
  have hcal : ca < w.heap.size := hcur.lt
  clear h hcur hc1 hc2 hc3 hc4 hl1 hl2
  unfold refV
  go_enter Try.func120, Try.ntmps120
  have hlt1 : ¬ (q : Int) < 0 := by omega
  have hlt2 : ¬ (s.C.length : Int) ≤ (q : Int) := by omega
  go_upto_region 3 with fail
  obtain ⟨W, hW⟩ : ∃ W, ((w.alloc (.cells #[.slice (some ⟨ca, 0, none⟩) s.C.length cp, .int .i64 (s.most : Int), .slice la s.L.length lp] 101)).alloc (.cells #[.slice none 0 0, .int .i64 0, .slice none 0 0] 101)).alloc (.cells #[.int .i64 0, .int .i64 0, .int .u64 0, .int .u64 0, .bool false] 175) = W := ⟨_, rfl⟩
  rw [hW]
  have HTW : Hid (Touch [] w W) := hW ▸ (((Touch.refl [] w).alloc _).alloc _).alloc _
  have HLW := Lib.hid ((((Led.nil' w).alloc 101 #[.slice (some ⟨ca, 0, none⟩) s.C.length cp, .int .i64 (s.most : Int), .slice la s.L.length lp]).alloc 101 #[.slice none 0 0, .int .i64 0, .slice none 0 0]).alloc 175 #[.int .i64 0, .int .i64 0, .int .u64 0, .int .u64 0, .bool false])
  rw [hW] at HLW
  simp only [List.nil_append, List.cons_append, World.size_alloc] at HLW
  have HRW := Lib.hid (HA.out.touch HTW.out)
  have cW : W.cell? ⟨ca, q, none⟩ = some (.int .u64 (was : Int)) := by
    rw [own_cell HRW.out.cel q (by rw [words_length]; exact hq)]
    simp [words, HWAS.out]
  obtain ⟨b0, _, _, _, _, _, hl5⟩ := HLW.out.c3 0 rfl
  have HE := Lib.hid (own_empty W 127 1)
  have HTE := Lib.hid ((Touch.refl [] W).alloc (.cells #[] 127))
  clear hW
  go_upto_region 17 with (at_builtin; go_must (refine wpList_append_src _ rfl (.tmp 51) (.tmp 53) 98 rfl 127 i0 (.int .u64 0) 1 8 Try.underlying98 hi iz0 iz1 iz2 rfl (by decide) (.slice (some ⟨W.heap.size, 0, none⟩) 0 0) 0 [] rfl HE.out (.slice (some ⟨ca, 0, none⟩) s.C.length cp) s.C.length (words s.C) rfl (own_touch HRW.out.cel HTE.out (by simp)) (words_one _) (by simp only [maxLen]; omega) (by omega) ?_); intro a1 c1 w1 hown hgrow hat; refine Hid.out ?_)
  rw [Nat.zero_add, List.nil_append] at hown
  rw [Nat.zero_add] at hat
  obtain ⟨g1, c1', cur1, hv1, hcur1, _, _, _, _⟩ := own_form hown (by omega)
  injection hv1 with e1 e2 e3
  subst e1 e3
  have HL1 := Lib.hid ((HLW.out.new (t' := row 127 1 (.slice (some ⟨W.heap.size, 0, none⟩) 0 0) 0 []) ⟨rfl, HE.out⟩ ⟨(Touch.refl [] W).alloc _, fun k hk => .inr (by simp [sb, Value.ownBlock] at hk; omega)⟩).grown 3 rfl hgrow hown hat)
  simp only [List.nil_append, List.cons_append, List.set_cons_succ, List.set_cons_zero] at HL1
  have hwd := HLW.out.size
  have o1 : w1.cell? ⟨g1, q, none⟩ = some (.int .u64 (was : Int)) := by
    rw [own_cell hown q (by rw [words_length]; exact hq)]
    simp [words, HWAS.out]
  have o2 := own_frozen hown q
  obtain ⟨b0, _, _, _, _, _, hl5⟩ := HL1.out.c3 0 rfl
  clear hown hgrow hat hcur1 e2 HLW HE HTE cW HTW HRW
  refine Lib.hid ?_
  go_upto_region 17 with fail
  obtain ⟨V, hV⟩ : ∃ V, (w1.setCell ⟨g1, q, none⟩ (.int .u64 (was : Int))).alloc (.cells #[.int .i64 1, .int .i64 (q : Int), .int .u64 (was : Int), .int .u64 (was : Int), .bool true] 175) = V := ⟨_, rfl⟩
  have HLV := Lib.hid ((HL1.out.rowset 3 rfl q (.int .u64 (was : Int))).alloc 175 #[.int .i64 1, .int .i64 (q : Int), .int .u64 (was : Int), .int .u64 (was : Int), .bool true])
  rw [hV, ← words_set] at HLV
  simp only [List.nil_append, List.cons_append, List.set_cons_succ, List.set_cons_zero, World.size_setCell] at HLV
  obtain ⟨b17, hb17⟩ : ∃ b17, w1.heap.size = b17 := ⟨_, rfl⟩
  rw [hV, hb17]
  rw [hb17] at HLV
  clear hV hb17 o1 o2 HL1 b0 hl5
  obtain ⟨v0, v1, v2, _, _, _, hl5⟩ := HLV.out.c3 0 rfl
  obtain ⟨x0, x1, x2, x3, x4, _, _, _, _, _, hl17⟩ := HLV.out.c5 4 rfl
  obtain ⟨_, _, _, _, _, _, hl10⟩ := HLV.out.c3 1 rfl
  obtain ⟨_, _, _, _, _, _, _, _, _, _, hl11⟩ := HLV.out.c5 2 rfl
  have n1 := HLV.out.ne 4 1 rfl rfl (by decide)
  have n2 := HLV.out.ne 4 2 rfl rfl (by decide)
  have n3 := Ne.symm n1
  have n4 := Ne.symm n2
  have n5 : w.heap.size ≠ w.heap.size + 1 + 1 := by omega
  have n6 : w.heap.size + 1 + 1 ≠ w.heap.size := by omega
  have HRV : Hid (V.ownsRow 0 175 5 (.slice la s.L.length lp) s.L.length (accCells s.L)) := own_keep HA.out.log (fun k hk => HLV.out.below.block k (own_lt HA.out.log k hk))
  -- the three orders in which the makers of memory come up
  have HLa := Lib.hid ((HLV.out.emptyR 175 5).drew)
  have HLb := Lib.hid (((HLV.out.emptyR 175 5).alloc 175 #[.int .i64 1, .int .i64 (q : Int), .int .u64 (was : Int), .int .u64 (was : Int), .bool true]).drew)
  have HLc := Lib.hid ((((HLV.out.alloc 175 #[.int .i64 1, .int .i64 (q : Int), .int .u64 (was : Int), .int .u64 (was : Int), .bool true]).emptyR 175 5).drew).pick [0, 1, 2, 3, 4, 6, 5] (by decide) (by simp))
  simp only [List.nil_append, List.cons_append, World.size_alloc, List.filterMap_cons, List.filterMap_nil, List.getElem?_cons_zero, List.getElem?_cons_succ] at HLa HLb HLc
  have HRa := Lib.hid (own_drew (HRV.out.alloc (.cells #[] 175)))
  have HRb := Lib.hid (own_drew ((HRV.out.alloc (.cells #[] 175)).alloc (.cells #[.int .i64 1, .int .i64 (q : Int), .int .u64 (was : Int), .int .u64 (was : Int), .bool true] 175)))
  have HRc := Lib.hid (own_drew ((HRV.out.alloc (.cells #[.int .i64 1, .int .i64 (q : Int), .int .u64 (was : Int), .int .u64 (was : Int), .bool true] 175)).alloc (.cells #[] 175)))
  go_region_held3 (fun w' => w'.cell? ⟨w.heap.size, 1, none⟩ = some (.int .i64 (s.most : Int)) ∧ w'.cell? ⟨w.heap.size, 2, none⟩ = some (.slice la s.L.length lp) ∧ w'.cell? ⟨b17, 0, none⟩ = some (.int .i64 1) ∧ w'.cell? ⟨b17, 1, none⟩ = some (.int .i64 (q : Int)) ∧ w'.cell? ⟨b17, 2, none⟩ = some (.int .u64 (was : Int)) ∧ w'.cell? ⟨b17, 3, none⟩ = some (.int .u64 (was : Int)) ∧ w'.cell? ⟨b17, 4, none⟩ = some (.bool true)) (go_keep) (first
    | (refine step_append_src _ (by rfl) (.tmp 68) (.tmp 70) 99 (by rfl) 175 j0 _ 5 40 Try.underlying99 hj jz0 jz1 jz2 rfl (by decide) (.slice (some ⟨V.heap.size, 0, none⟩) 0 0) 0 [] (by rfl) (HLa.out.row 5 rfl) (.slice la s.L.length lp) s.L.length (accCells s.L) (by rfl) HRa.out (accs_one _) (by simp only [maxLen]; omega) (by omega) ?_; intro a2 c2 w2 hown hgrow hat; simp only [Nat.zero_add, List.nil_append] at hown hat ⊢; have HL2 := Lib.hid (HLa.out.grown 5 rfl hgrow hown hat); simp only [List.set_cons_succ, List.set_cons_zero] at HL2; obtain ⟨v0, v1, v2, _, _, _, hl5⟩ := HL2.out.c3 0 rfl; obtain ⟨x0, x1, x2, x3, x4, _, _, _, _, _, hl17⟩ := HL2.out.c5 4 rfl; obtain ⟨p10, _, _, q10, _, _, hl10⟩ := HL2.out.c3 1 rfl; obtain ⟨p11, _, _, _, _, q11, _, _, _, _, hl11⟩ := HL2.out.c5 2 rfl; clear hown hgrow hat)
    | (refine step_append_src _ (by rfl) (.tmp 68) (.tmp 70) 99 (by rfl) 175 j0 _ 5 40 Try.underlying99 hj jz0 jz1 jz2 rfl (by decide) (.slice (some ⟨V.heap.size, 0, none⟩) 0 0) 0 [] (by rfl) (HLb.out.row 5 rfl) (.slice la s.L.length lp) s.L.length (accCells s.L) (by rfl) HRb.out (accs_one _) (by simp only [maxLen]; omega) (by omega) ?_; intro a2 c2 w2 hown hgrow hat; simp only [Nat.zero_add, List.nil_append] at hown hat ⊢; have HL2 := Lib.hid (HLb.out.grown 5 rfl hgrow hown hat); simp only [List.set_cons_succ, List.set_cons_zero] at HL2; obtain ⟨v0, v1, v2, _, _, _, hl5⟩ := HL2.out.c3 0 rfl; obtain ⟨x0, x1, x2, x3, x4, _, _, _, _, _, hl17⟩ := HL2.out.c5 4 rfl; obtain ⟨p10, _, _, q10, _, _, hl10⟩ := HL2.out.c3 1 rfl; obtain ⟨p11, _, _, _, _, q11, _, _, _, _, hl11⟩ := HL2.out.c5 2 rfl; clear hown hgrow hat)
    | (refine step_append_src _ (by rfl) (.tmp 68) (.tmp 70) 99 (by rfl) 175 j0 _ 5 40 Try.underlying99 hj jz0 jz1 jz2 rfl (by decide) (.slice (some ⟨V.heap.size + 1, 0, none⟩) 0 0) 0 [] (by rfl) (HLc.out.row 5 rfl) (.slice la s.L.length lp) s.L.length (accCells s.L) (by rfl) HRc.out (accs_one _) (by simp only [maxLen]; omega) (by omega) ?_; intro a2 c2 w2 hown hgrow hat; simp only [Nat.zero_add, List.nil_append] at hown hat ⊢; have HL2 := Lib.hid (HLc.out.grown 5 rfl hgrow hown hat); simp only [List.set_cons_succ, List.set_cons_zero] at HL2; obtain ⟨v0, v1, v2, _, _, _, hl5⟩ := HL2.out.c3 0 rfl; obtain ⟨x0, x1, x2, x3, x4, _, _, _, _, _, hl17⟩ := HL2.out.c5 4 rfl; obtain ⟨p10, _, _, q10, _, _, hl10⟩ := HL2.out.c3 1 rfl; obtain ⟨p11, _, _, _, _, q11, _, _, _, _, hl11⟩ := HL2.out.c5 2 rfl; clear hown hgrow hat)
    | (refine step_append_src _ (by rfl) (.tmp 71) (.tmp 73) 99 (by rfl) 175 j0 _ 5 40 Try.underlying99 hj jz0 jz1 jz2 rfl (by decide) (.slice a2 s.L.length c2) s.L.length (accCells s.L) (by rfl) ((HL2.out.alloc _ _).row 5 rfl) (.slice (some ⟨w2.heap.size, 0, none⟩) 1 1) 1 (Acc.cells ⟨1, q, was, was, true⟩) (by rfl) (own_box1 ((HL2.out.alloc _ _).box 6 rfl)) (acc_one _) (by simp only [maxLen]; omega) (by omega) ?_; intro a3 c3 w3 hown hgrow hat; have HL3 := Lib.hid ((HL2.out.alloc _ _).grown 5 rfl hgrow hown hat); simp only [List.set_cons_succ, List.set_cons_zero, List.cons_append, List.nil_append] at HL3; obtain ⟨v0, v1, v2, _, _, _, hl5⟩ := HL3.out.c3 0 rfl; obtain ⟨x0, x1, x2, x3, x4, _, _, _, _, _, hl17⟩ := HL3.out.c5 4 rfl; obtain ⟨p10, p101, p102, q10, q101, q102, hl10⟩ := HL3.out.c3 1 rfl; obtain ⟨p11, p111, p112, p113, p114, q11, q111, q112, q113, q114, hl11⟩ := HL3.out.c5 2 rfl; clear hown hgrow hat)
    | (refine step_append_src _ (by rfl) (.tmp 71) (.tmp 73) 99 (by rfl) 175 j0 _ 5 40 Try.underlying99 hj jz0 jz1 jz2 rfl (by decide) (.slice a2 s.L.length c2) s.L.length (accCells s.L) (by rfl) (HL2.out.row 5 rfl) (.slice (some ⟨_, 0, none⟩) 1 1) 1 (Acc.cells ⟨1, q, was, was, true⟩) (by rfl) (own_box1 (HL2.out.box 6 rfl)) (acc_one _) (by simp only [maxLen]; omega) (by omega) ?_; intro a3 c3 w3 hown hgrow hat; have HL3 := Lib.hid (HL2.out.grown 5 rfl hgrow hown hat); simp only [List.set_cons_succ, List.set_cons_zero, List.cons_append, List.nil_append] at HL3; obtain ⟨v0, v1, v2, _, _, _, hl5⟩ := HL3.out.c3 0 rfl; obtain ⟨x0, x1, x2, x3, x4, _, _, _, _, _, hl17⟩ := HL3.out.c5 4 rfl; obtain ⟨p10, p101, p102, q10, q101, q102, hl10⟩ := HL3.out.c3 1 rfl; obtain ⟨p11, p111, p112, p113, p114, q11, q111, q112, q113, q114, hl11⟩ := HL3.out.c5 2 rfl; clear hown hgrow hat))
  all_goals go_wp2
  all_goals have HLF := Lib.hid ((((((((HL3.out.set 1 rfl 0 (.slice (some ⟨g1, 0, none⟩) s.C.length c1)).set 1 rfl 1 (.int .i64 (s.most : Int))).set 1 rfl 2 (.slice a3 (s.L.length + 1) c3)).set 2 rfl 0 (.int .i64 1)).set 2 rfl 1 (.int .i64 (q : Int))).set 2 rfl 2 (.int .u64 (was : Int))).set 2 rfl 3 (.int .u64 (was : Int))).set 2 rfl 4 (.bool true))
  all_goals simp only [List.set_cons_succ, List.set_cons_zero, List.setIfInBounds_toArray] at HLF
  all_goals obtain ⟨y0, y1, y2, _, _, _, _⟩ := HLF.out.c3 1 rfl
  all_goals obtain ⟨z0, z1, z2, z3, z4, _, _, _, _, _, _⟩ := HLF.out.c5 2 rfl
  all_goals refine bodyPost_ret (v := .tuple #[.agg #[.slice (some ⟨g1, 0, none⟩) s.C.length c1, .int .i64 (s.most : Int), .slice a3 (s.L.length + 1) c3], .agg #[.int .i64 1, .int .i64 (q : Int), .int .u64 (was : Int), .int .u64 (was : Int), .bool true], .int .i64 0]) (by simp [results, Try.results120, go_sem, y0, y1, y2, z0, z1, z2, z3, z4]) rfl ?_
  all_goals exact refDo_close (x := ⟨1, q, was, was, true⟩) HA.out HLF.out rfl rfl HWAS.out hq
set_option maxHeartbeats 4000000 in
theorem refDo_store (w : World) (vc vl : Value) (s : Ar) (q : Nat) (was : Nat) (v : Nat) (y : Int) (h : RefAt w vc vl s) (hq : q < s.C.length) (HWAS : Hid (s.C[q] = was)) (hL : s.L.length ≤ 1048576) :
    Calls Try.prog 120 #[refV vc s.most vl, .int .i64 2, .int .i64 (q : Int), .int .u64 (v : Int), .int .u64 y] w (RefDid w vc vl s (s.acc 2 q v true, ⟨2, q, was, v, true⟩, 0)) := by
  obtain ⟨i0, hi, iz0, iz1, iz2⟩ := info_parts info_uint64
  obtain ⟨j0, hj, jz0, jz1, jz2⟩ := info_parts info_access
  obtain ⟨ca, cp, cur, rfl, hcur, hc1, hc2, hc3, hc4⟩ := own_form h.cel (by omega)
  obtain ⟨la, lp, rfl, hl1, hl2⟩ := own_val h.log
  have HA := Lib.hid h
  have hcl := h.clen
  have hcal : ca < w.heap.size := hcur.lt
  clear h hcur hc1 hc2 hc3 hc4 hl1 hl2
  unfold refV
  go_enter Try.func120, Try.ntmps120
  have hlt1 : ¬ (q : Int) < 0 := by omega
  have hlt2 : ¬ (s.C.length : Int) ≤ (q : Int) := by omega
  go_upto_region 3 with fail
  obtain ⟨W, hW⟩ : ∃ W, ((w.alloc (.cells #[.slice (some ⟨ca, 0, none⟩) s.C.length cp, .int .i64 (s.most : Int), .slice la s.L.length lp] 101)).alloc (.cells #[.slice none 0 0, .int .i64 0, .slice none 0 0] 101)).alloc (.cells #[.int .i64 0, .int .i64 0, .int .u64 0, .int .u64 0, .bool false] 175) = W := ⟨_, rfl⟩
  rw [hW]
  have HTW : Hid (Touch [] w W) := hW ▸ (((Touch.refl [] w).alloc _).alloc _).alloc _
  have HLW := Lib.hid ((((Led.nil' w).alloc 101 #[.slice (some ⟨ca, 0, none⟩) s.C.length cp, .int .i64 (s.most : Int), .slice la s.L.length lp]).alloc 101 #[.slice none 0 0, .int .i64 0, .slice none 0 0]).alloc 175 #[.int .i64 0, .int .i64 0, .int .u64 0, .int .u64 0, .bool false])
  rw [hW] at HLW
  simp only [List.nil_append, List.cons_append, World.size_alloc] at HLW
  have HRW := Lib.hid (HA.out.touch HTW.out)
  have cW : W.cell? ⟨ca, q, none⟩ = some (.int .u64 (was : Int)) := by
    rw [own_cell HRW.out.cel q (by rw [words_length]; exact hq)]
    simp [words, HWAS.out]
  obtain ⟨b0, _, _, _, _, _, hl5⟩ := HLW.out.c3 0 rfl
  have HE := Lib.hid (own_empty W 127 1)
  have HTE := Lib.hid ((Touch.refl [] W).alloc (.cells #[] 127))
  clear hW
  go_upto_region 17 with (at_builtin; go_must (refine wpList_append_src _ rfl (.tmp 51) (.tmp 53) 98 rfl 127 i0 (.int .u64 0) 1 8 Try.underlying98 hi iz0 iz1 iz2 rfl (by decide) (.slice (some ⟨W.heap.size, 0, none⟩) 0 0) 0 [] rfl HE.out (.slice (some ⟨ca, 0, none⟩) s.C.length cp) s.C.length (words s.C) rfl (own_touch HRW.out.cel HTE.out (by simp)) (words_one _) (by simp only [maxLen]; omega) (by omega) ?_); intro a1 c1 w1 hown hgrow hat; refine Hid.out ?_)
  rw [Nat.zero_add, List.nil_append] at hown
  rw [Nat.zero_add] at hat
  obtain ⟨g1, c1', cur1, hv1, hcur1, _, _, _, _⟩ := own_form hown (by omega)
  injection hv1 with e1 e2 e3
  subst e1 e3
  have HL1 := Lib.hid ((HLW.out.new (t' := row 127 1 (.slice (some ⟨W.heap.size, 0, none⟩) 0 0) 0 []) ⟨rfl, HE.out⟩ ⟨(Touch.refl [] W).alloc _, fun k hk => .inr (by simp [sb, Value.ownBlock] at hk; omega)⟩).grown 3 rfl hgrow hown hat)
  simp only [List.nil_append, List.cons_append, List.set_cons_succ, List.set_cons_zero] at HL1
  have hwd := HLW.out.size
  have o1 : w1.cell? ⟨g1, q, none⟩ = some (.int .u64 (was : Int)) := by
    rw [own_cell hown q (by rw [words_length]; exact hq)]
    simp [words, HWAS.out]
  have o2 := own_frozen hown q
  obtain ⟨b0, _, _, _, _, _, hl5⟩ := HL1.out.c3 0 rfl
  clear hown hgrow hat hcur1 e2 HLW HE HTE cW HTW HRW
  refine Lib.hid ?_
  go_upto_region 17 with fail
  obtain ⟨V, hV⟩ : ∃ V, (w1.setCell ⟨g1, q, none⟩ (.int .u64 (v : Int))).alloc (.cells #[.int .i64 2, .int .i64 (q : Int), .int .u64 (was : Int), .int .u64 (v : Int), .bool true] 175) = V := ⟨_, rfl⟩
  have HLV := Lib.hid ((HL1.out.rowset 3 rfl q (.int .u64 (v : Int))).alloc 175 #[.int .i64 2, .int .i64 (q : Int), .int .u64 (was : Int), .int .u64 (v : Int), .bool true])
  rw [hV, ← words_set] at HLV
  simp only [List.nil_append, List.cons_append, List.set_cons_succ, List.set_cons_zero, World.size_setCell] at HLV
  obtain ⟨b17, hb17⟩ : ∃ b17, w1.heap.size = b17 := ⟨_, rfl⟩
  rw [hV, hb17]
  rw [hb17] at HLV
  clear hV hb17 o1 o2 HL1 b0 hl5
  obtain ⟨v0, v1, v2, _, _, _, hl5⟩ := HLV.out.c3 0 rfl
  obtain ⟨x0, x1, x2, x3, x4, _, _, _, _, _, hl17⟩ := HLV.out.c5 4 rfl
  obtain ⟨_, _, _, _, _, _, hl10⟩ := HLV.out.c3 1 rfl
  obtain ⟨_, _, _, _, _, _, _, _, _, _, hl11⟩ := HLV.out.c5 2 rfl
  have n1 := HLV.out.ne 4 1 rfl rfl (by decide)
  have n2 := HLV.out.ne 4 2 rfl rfl (by decide)
  have n3 := Ne.symm n1
  have n4 := Ne.symm n2
  have n5 : w.heap.size ≠ w.heap.size + 1 + 1 := by omega
  have n6 : w.heap.size + 1 + 1 ≠ w.heap.size := by omega
  have HRV : Hid (V.ownsRow 0 175 5 (.slice la s.L.length lp) s.L.length (accCells s.L)) := own_keep HA.out.log (fun k hk => HLV.out.below.block k (own_lt HA.out.log k hk))
  -- the three orders in which the makers of memory come up
  have HLa := Lib.hid ((HLV.out.emptyR 175 5).drew)
  have HLb := Lib.hid (((HLV.out.emptyR 175 5).alloc 175 #[.int .i64 2, .int .i64 (q : Int), .int .u64 (was : Int), .int .u64 (v : Int), .bool true]).drew)
  have HLc := Lib.hid ((((HLV.out.alloc 175 #[.int .i64 2, .int .i64 (q : Int), .int .u64 (was : Int), .int .u64 (v : Int), .bool true]).emptyR 175 5).drew).pick [0, 1, 2, 3, 4, 6, 5] (by decide) (by simp))
  simp only [List.nil_append, List.cons_append, World.size_alloc, List.filterMap_cons, List.filterMap_nil, List.getElem?_cons_zero, List.getElem?_cons_succ] at HLa HLb HLc
  have HRa := Lib.hid (own_drew (HRV.out.alloc (.cells #[] 175)))
  have HRb := Lib.hid (own_drew ((HRV.out.alloc (.cells #[] 175)).alloc (.cells #[.int .i64 2, .int .i64 (q : Int), .int .u64 (was : Int), .int .u64 (v : Int), .bool true] 175)))
  have HRc := Lib.hid (own_drew ((HRV.out.alloc (.cells #[.int .i64 2, .int .i64 (q : Int), .int .u64 (was : Int), .int .u64 (v : Int), .bool true] 175)).alloc (.cells #[] 175)))
  go_region_held3 (fun w' => w'.cell? ⟨w.heap.size, 1, none⟩ = some (.int .i64 (s.most : Int)) ∧ w'.cell? ⟨w.heap.size, 2, none⟩ = some (.slice la s.L.length lp) ∧ w'.cell? ⟨b17, 0, none⟩ = some (.int .i64 2) ∧ w'.cell? ⟨b17, 1, none⟩ = some (.int .i64 (q : Int)) ∧ w'.cell? ⟨b17, 2, none⟩ = some (.int .u64 (was : Int)) ∧ w'.cell? ⟨b17, 3, none⟩ = some (.int .u64 (v : Int)) ∧ w'.cell? ⟨b17, 4, none⟩ = some (.bool true)) (go_keep) (first
    | (refine step_append_src _ (by rfl) (.tmp 68) (.tmp 70) 99 (by rfl) 175 j0 _ 5 40 Try.underlying99 hj jz0 jz1 jz2 rfl (by decide) (.slice (some ⟨V.heap.size, 0, none⟩) 0 0) 0 [] (by rfl) (HLa.out.row 5 rfl) (.slice la s.L.length lp) s.L.length (accCells s.L) (by rfl) HRa.out (accs_one _) (by simp only [maxLen]; omega) (by omega) ?_; intro a2 c2 w2 hown hgrow hat; simp only [Nat.zero_add, List.nil_append] at hown hat ⊢; have HL2 := Lib.hid (HLa.out.grown 5 rfl hgrow hown hat); simp only [List.set_cons_succ, List.set_cons_zero] at HL2; obtain ⟨v0, v1, v2, _, _, _, hl5⟩ := HL2.out.c3 0 rfl; obtain ⟨x0, x1, x2, x3, x4, _, _, _, _, _, hl17⟩ := HL2.out.c5 4 rfl; obtain ⟨p10, _, _, q10, _, _, hl10⟩ := HL2.out.c3 1 rfl; obtain ⟨p11, _, _, _, _, q11, _, _, _, _, hl11⟩ := HL2.out.c5 2 rfl; clear hown hgrow hat)
    | (refine step_append_src _ (by rfl) (.tmp 68) (.tmp 70) 99 (by rfl) 175 j0 _ 5 40 Try.underlying99 hj jz0 jz1 jz2 rfl (by decide) (.slice (some ⟨V.heap.size, 0, none⟩) 0 0) 0 [] (by rfl) (HLb.out.row 5 rfl) (.slice la s.L.length lp) s.L.length (accCells s.L) (by rfl) HRb.out (accs_one _) (by simp only [maxLen]; omega) (by omega) ?_; intro a2 c2 w2 hown hgrow hat; simp only [Nat.zero_add, List.nil_append] at hown hat ⊢; have HL2 := Lib.hid (HLb.out.grown 5 rfl hgrow hown hat); simp only [List.set_cons_succ, List.set_cons_zero] at HL2; obtain ⟨v0, v1, v2, _, _, _, hl5⟩ := HL2.out.c3 0 rfl; obtain ⟨x0, x1, x2, x3, x4, _, _, _, _, _, hl17⟩ := HL2.out.c5 4 rfl; obtain ⟨p10, _, _, q10, _, _, hl10⟩ := HL2.out.c3 1 rfl; obtain ⟨p11, _, _, _, _, q11, _, _, _, _, hl11⟩ := HL2.out.c5 2 rfl; clear hown hgrow hat)
    | (refine step_append_src _ (by rfl) (.tmp 68) (.tmp 70) 99 (by rfl) 175 j0 _ 5 40 Try.underlying99 hj jz0 jz1 jz2 rfl (by decide) (.slice (some ⟨V.heap.size + 1, 0, none⟩) 0 0) 0 [] (by rfl) (HLc.out.row 5 rfl) (.slice la s.L.length lp) s.L.length (accCells s.L) (by rfl) HRc.out (accs_one _) (by simp only [maxLen]; omega) (by omega) ?_; intro a2 c2 w2 hown hgrow hat; simp only [Nat.zero_add, List.nil_append] at hown hat ⊢; have HL2 := Lib.hid (HLc.out.grown 5 rfl hgrow hown hat); simp only [List.set_cons_succ, List.set_cons_zero] at HL2; obtain ⟨v0, v1, v2, _, _, _, hl5⟩ := HL2.out.c3 0 rfl; obtain ⟨x0, x1, x2, x3, x4, _, _, _, _, _, hl17⟩ := HL2.out.c5 4 rfl; obtain ⟨p10, _, _, q10, _, _, hl10⟩ := HL2.out.c3 1 rfl; obtain ⟨p11, _, _, _, _, q11, _, _, _, _, hl11⟩ := HL2.out.c5 2 rfl; clear hown hgrow hat)
    | (refine step_append_src _ (by rfl) (.tmp 71) (.tmp 73) 99 (by rfl) 175 j0 _ 5 40 Try.underlying99 hj jz0 jz1 jz2 rfl (by decide) (.slice a2 s.L.length c2) s.L.length (accCells s.L) (by rfl) ((HL2.out.alloc _ _).row 5 rfl) (.slice (some ⟨w2.heap.size, 0, none⟩) 1 1) 1 (Acc.cells ⟨2, q, was, v, true⟩) (by rfl) (own_box1 ((HL2.out.alloc _ _).box 6 rfl)) (acc_one _) (by simp only [maxLen]; omega) (by omega) ?_; intro a3 c3 w3 hown hgrow hat; have HL3 := Lib.hid ((HL2.out.alloc _ _).grown 5 rfl hgrow hown hat); simp only [List.set_cons_succ, List.set_cons_zero, List.cons_append, List.nil_append] at HL3; obtain ⟨v0, v1, v2, _, _, _, hl5⟩ := HL3.out.c3 0 rfl; obtain ⟨x0, x1, x2, x3, x4, _, _, _, _, _, hl17⟩ := HL3.out.c5 4 rfl; obtain ⟨p10, p101, p102, q10, q101, q102, hl10⟩ := HL3.out.c3 1 rfl; obtain ⟨p11, p111, p112, p113, p114, q11, q111, q112, q113, q114, hl11⟩ := HL3.out.c5 2 rfl; clear hown hgrow hat)
    | (refine step_append_src _ (by rfl) (.tmp 71) (.tmp 73) 99 (by rfl) 175 j0 _ 5 40 Try.underlying99 hj jz0 jz1 jz2 rfl (by decide) (.slice a2 s.L.length c2) s.L.length (accCells s.L) (by rfl) (HL2.out.row 5 rfl) (.slice (some ⟨_, 0, none⟩) 1 1) 1 (Acc.cells ⟨2, q, was, v, true⟩) (by rfl) (own_box1 (HL2.out.box 6 rfl)) (acc_one _) (by simp only [maxLen]; omega) (by omega) ?_; intro a3 c3 w3 hown hgrow hat; have HL3 := Lib.hid (HL2.out.grown 5 rfl hgrow hown hat); simp only [List.set_cons_succ, List.set_cons_zero, List.cons_append, List.nil_append] at HL3; obtain ⟨v0, v1, v2, _, _, _, hl5⟩ := HL3.out.c3 0 rfl; obtain ⟨x0, x1, x2, x3, x4, _, _, _, _, _, hl17⟩ := HL3.out.c5 4 rfl; obtain ⟨p10, p101, p102, q10, q101, q102, hl10⟩ := HL3.out.c3 1 rfl; obtain ⟨p11, p111, p112, p113, p114, q11, q111, q112, q113, q114, hl11⟩ := HL3.out.c5 2 rfl; clear hown hgrow hat))
  all_goals go_wp2
  all_goals have HLF := Lib.hid ((((((((HL3.out.set 1 rfl 0 (.slice (some ⟨g1, 0, none⟩) s.C.length c1)).set 1 rfl 1 (.int .i64 (s.most : Int))).set 1 rfl 2 (.slice a3 (s.L.length + 1) c3)).set 2 rfl 0 (.int .i64 2)).set 2 rfl 1 (.int .i64 (q : Int))).set 2 rfl 2 (.int .u64 (was : Int))).set 2 rfl 3 (.int .u64 (v : Int))).set 2 rfl 4 (.bool true))
  all_goals simp only [List.set_cons_succ, List.set_cons_zero, List.setIfInBounds_toArray] at HLF
  all_goals obtain ⟨y0, y1, y2, _, _, _, _⟩ := HLF.out.c3 1 rfl
  all_goals obtain ⟨z0, z1, z2, z3, z4, _, _, _, _, _, _⟩ := HLF.out.c5 2 rfl
  all_goals refine bodyPost_ret (v := .tuple #[.agg #[.slice (some ⟨g1, 0, none⟩) s.C.length c1, .int .i64 (s.most : Int), .slice a3 (s.L.length + 1) c3], .agg #[.int .i64 2, .int .i64 (q : Int), .int .u64 (was : Int), .int .u64 (v : Int), .bool true], .int .i64 0]) (by simp [results, Try.results120, go_sem, y0, y1, y2, z0, z1, z2, z3, z4]) rfl ?_
  all_goals exact refDo_close (x := ⟨2, q, was, v, true⟩) HA.out HLF.out rfl rfl HWAS.out hq
end Go.Proofs.Ytihmbgdkllmkaaa

/-
  The reference of law 01: Do: a swap.
-/
namespace Go.Proofs.Ytihmbgdkllmkaaa
open Go.RowKit Go.Shelf
set_option maxRecDepth 100000
set_option linter.unusedVariables false
set_option linter.unusedSimpArgs false


set_option maxHeartbeats 4000000 in
theorem refDo_swapY (w : World) (vc vl : Value) (s : Ar) (q : Nat) (was : Nat) (y : Nat) (h : RefAt w vc vl s) (hq : q < s.C.length) (HWAS : Hid (s.C[q] = was)) (hL : s.L.length ≤ 1048576) :
    Calls Try.prog 120 #[refV vc s.most vl, .int .i64 3, .int .i64 (q : Int), .int .u64 (was : Int), .int .u64 (y : Int)] w (RefDid w vc vl s (s.acc 3 q y true, ⟨3, q, was, y, true⟩, 0)) := by
  obtain ⟨i0, hi, iz0, iz1, iz2⟩ := info_parts info_uint64
  obtain ⟨j0, hj, jz0, jz1, jz2⟩ := info_parts info_access
  obtain ⟨ca, cp, cur, rfl, hcur, hc1, hc2, hc3, hc4⟩ := own_form h.cel (by omega)
  obtain ⟨la, lp, rfl, hl1, hl2⟩ := own_val h.log
  have HA := Lib.hid h
  have hcl := h.clen
  have hcal : ca < w.heap.size := hcur.lt
  clear h hcur hc1 hc2 hc3 hc4 hl1 hl2
  unfold refV
  go_enter Try.func120, Try.ntmps120
  have hlt1 : ¬ (q : Int) < 0 := by omega
  have hlt2 : ¬ (s.C.length : Int) ≤ (q : Int) := by omega
  go_upto_region 3 with fail
  obtain ⟨W, hW⟩ : ∃ W, ((w.alloc (.cells #[.slice (some ⟨ca, 0, none⟩) s.C.length cp, .int .i64 (s.most : Int), .slice la s.L.length lp] 101)).alloc (.cells #[.slice none 0 0, .int .i64 0, .slice none 0 0] 101)).alloc (.cells #[.int .i64 0, .int .i64 0, .int .u64 0, .int .u64 0, .bool false] 175) = W := ⟨_, rfl⟩
  rw [hW]
  have HTW : Hid (Touch [] w W) := hW ▸ (((Touch.refl [] w).alloc _).alloc _).alloc _
  have HLW := Lib.hid ((((Led.nil' w).alloc 101 #[.slice (some ⟨ca, 0, none⟩) s.C.length cp, .int .i64 (s.most : Int), .slice la s.L.length lp]).alloc 101 #[.slice none 0 0, .int .i64 0, .slice none 0 0]).alloc 175 #[.int .i64 0, .int .i64 0, .int .u64 0, .int .u64 0, .bool false])
  rw [hW] at HLW
  simp only [List.nil_append, List.cons_append, World.size_alloc] at HLW
  have HRW := Lib.hid (HA.out.touch HTW.out)
  have cW : W.cell? ⟨ca, q, none⟩ = some (.int .u64 (was : Int)) := by
    rw [own_cell HRW.out.cel q (by rw [words_length]; exact hq)]
    simp [words, HWAS.out]
  obtain ⟨b0, _, _, _, _, _, hl5⟩ := HLW.out.c3 0 rfl
  have HE := Lib.hid (own_empty W 127 1)
  have HTE := Lib.hid ((Touch.refl [] W).alloc (.cells #[] 127))
  clear hW
  go_upto_region 17 with (at_builtin; go_must (refine wpList_append_src _ rfl (.tmp 51) (.tmp 53) 98 rfl 127 i0 (.int .u64 0) 1 8 Try.underlying98 hi iz0 iz1 iz2 rfl (by decide) (.slice (some ⟨W.heap.size, 0, none⟩) 0 0) 0 [] rfl HE.out (.slice (some ⟨ca, 0, none⟩) s.C.length cp) s.C.length (words s.C) rfl (own_touch HRW.out.cel HTE.out (by simp)) (words_one _) (by simp only [maxLen]; omega) (by omega) ?_); intro a1 c1 w1 hown hgrow hat; refine Hid.out ?_)
  rw [Nat.zero_add, List.nil_append] at hown
  rw [Nat.zero_add] at hat
  obtain ⟨g1, c1', cur1, hv1, hcur1, _, _, _, _⟩ := own_form hown (by omega)
  injection hv1 with e1 e2 e3
  subst e1 e3
  have HL1 := Lib.hid ((HLW.out.new (t' := row 127 1 (.slice (some ⟨W.heap.size, 0, none⟩) 0 0) 0 []) ⟨rfl, HE.out⟩ ⟨(Touch.refl [] W).alloc _, fun k hk => .inr (by simp [sb, Value.ownBlock] at hk; omega)⟩).grown 3 rfl hgrow hown hat)
  simp only [List.nil_append, List.cons_append, List.set_cons_succ, List.set_cons_zero] at HL1
  have hwd := HLW.out.size
  have o1 : w1.cell? ⟨g1, q, none⟩ = some (.int .u64 (was : Int)) := by
    rw [own_cell hown q (by rw [words_length]; exact hq)]
    simp [words, HWAS.out]
  have o2 := own_frozen hown q
  obtain ⟨b0, _, _, _, _, _, hl5⟩ := HL1.out.c3 0 rfl
  clear hown hgrow hat hcur1 e2 HLW HE HTE cW HTW HRW
  refine Lib.hid ?_
  go_upto_region 17 with fail
  obtain ⟨V, hV⟩ : ∃ V, (w1.setCell ⟨g1, q, none⟩ (.int .u64 (y : Int))).alloc (.cells #[.int .i64 3, .int .i64 (q : Int), .int .u64 (was : Int), .int .u64 (y : Int), .bool true] 175) = V := ⟨_, rfl⟩
  have HLV := Lib.hid ((HL1.out.rowset 3 rfl q (.int .u64 (y : Int))).alloc 175 #[.int .i64 3, .int .i64 (q : Int), .int .u64 (was : Int), .int .u64 (y : Int), .bool true])
  rw [hV, ← words_set] at HLV
  simp only [List.nil_append, List.cons_append, List.set_cons_succ, List.set_cons_zero, World.size_setCell] at HLV
  obtain ⟨b17, hb17⟩ : ∃ b17, w1.heap.size = b17 := ⟨_, rfl⟩
  rw [hV, hb17]
  rw [hb17] at HLV
  clear hV hb17 o1 o2 HL1 b0 hl5
  obtain ⟨v0, v1, v2, _, _, _, hl5⟩ := HLV.out.c3 0 rfl
  obtain ⟨x0, x1, x2, x3, x4, _, _, _, _, _, hl17⟩ := HLV.out.c5 4 rfl
  obtain ⟨_, _, _, _, _, _, hl10⟩ := HLV.out.c3 1 rfl
  obtain ⟨_, _, _, _, _, _, _, _, _, _, hl11⟩ := HLV.out.c5 2 rfl
  have n1 := HLV.out.ne 4 1 rfl rfl (by decide)
  have n2 := HLV.out.ne 4 2 rfl rfl (by decide)
  have n3 := Ne.symm n1
  have n4 := Ne.symm n2
  have n5 : w.heap.size ≠ w.heap.size + 1 + 1 := by omega
  have n6 : w.heap.size + 1 + 1 ≠ w.heap.size := by omega
  have HRV : Hid (V.ownsRow 0 175 5 (.slice la s.L.length lp) s.L.length (accCells s.L)) := own_keep HA.out.log (fun k hk => HLV.out.below.block k (own_lt HA.out.log k hk))
  -- the three orders in which the makers of memory come up
  have HLa := Lib.hid ((HLV.out.emptyR 175 5).drew)
  have HLb := Lib.hid (((HLV.out.emptyR 175 5).alloc 175 #[.int .i64 3, .int .i64 (q : Int), .int .u64 (was : Int), .int .u64 (y : Int), .bool true]).drew)
  have HLc := Lib.hid ((((HLV.out.alloc 175 #[.int .i64 3, .int .i64 (q : Int), .int .u64 (was : Int), .int .u64 (y : Int), .bool true]).emptyR 175 5).drew).pick [0, 1, 2, 3, 4, 6, 5] (by decide) (by simp))
  simp only [List.nil_append, List.cons_append, World.size_alloc, List.filterMap_cons, List.filterMap_nil, List.getElem?_cons_zero, List.getElem?_cons_succ] at HLa HLb HLc
  have HRa := Lib.hid (own_drew (HRV.out.alloc (.cells #[] 175)))
  have HRb := Lib.hid (own_drew ((HRV.out.alloc (.cells #[] 175)).alloc (.cells #[.int .i64 3, .int .i64 (q : Int), .int .u64 (was : Int), .int .u64 (y : Int), .bool true] 175)))
  have HRc := Lib.hid (own_drew ((HRV.out.alloc (.cells #[.int .i64 3, .int .i64 (q : Int), .int .u64 (was : Int), .int .u64 (y : Int), .bool true] 175)).alloc (.cells #[] 175)))
  go_region_held3 (fun w' => w'.cell? ⟨w.heap.size, 1, none⟩ = some (.int .i64 (s.most : Int)) ∧ w'.cell? ⟨w.heap.size, 2, none⟩ = some (.slice la s.L.length lp) ∧ w'.cell? ⟨b17, 0, none⟩ = some (.int .i64 3) ∧ w'.cell? ⟨b17, 1, none⟩ = some (.int .i64 (q : Int)) ∧ w'.cell? ⟨b17, 2, none⟩ = some (.int .u64 (was : Int)) ∧ w'.cell? ⟨b17, 3, none⟩ = some (.int .u64 (y : Int)) ∧ w'.cell? ⟨b17, 4, none⟩ = some (.bool true)) (go_keep) (first
    | (refine step_append_src _ (by rfl) (.tmp 68) (.tmp 70) 99 (by rfl) 175 j0 _ 5 40 Try.underlying99 hj jz0 jz1 jz2 rfl (by decide) (.slice (some ⟨V.heap.size, 0, none⟩) 0 0) 0 [] (by rfl) (HLa.out.row 5 rfl) (.slice la s.L.length lp) s.L.length (accCells s.L) (by rfl) HRa.out (accs_one _) (by simp only [maxLen]; omega) (by omega) ?_; intro a2 c2 w2 hown hgrow hat; simp only [Nat.zero_add, List.nil_append] at hown hat ⊢; have HL2 := Lib.hid (HLa.out.grown 5 rfl hgrow hown hat); simp only [List.set_cons_succ, List.set_cons_zero] at HL2; obtain ⟨v0, v1, v2, _, _, _, hl5⟩ := HL2.out.c3 0 rfl; obtain ⟨x0, x1, x2, x3, x4, _, _, _, _, _, hl17⟩ := HL2.out.c5 4 rfl; obtain ⟨p10, _, _, q10, _, _, hl10⟩ := HL2.out.c3 1 rfl; obtain ⟨p11, _, _, _, _, q11, _, _, _, _, hl11⟩ := HL2.out.c5 2 rfl; clear hown hgrow hat)
    | (refine step_append_src _ (by rfl) (.tmp 68) (.tmp 70) 99 (by rfl) 175 j0 _ 5 40 Try.underlying99 hj jz0 jz1 jz2 rfl (by decide) (.slice (some ⟨V.heap.size, 0, none⟩) 0 0) 0 [] (by rfl) (HLb.out.row 5 rfl) (.slice la s.L.length lp) s.L.length (accCells s.L) (by rfl) HRb.out (accs_one _) (by simp only [maxLen]; omega) (by omega) ?_; intro a2 c2 w2 hown hgrow hat; simp only [Nat.zero_add, List.nil_append] at hown hat ⊢; have HL2 := Lib.hid (HLb.out.grown 5 rfl hgrow hown hat); simp only [List.set_cons_succ, List.set_cons_zero] at HL2; obtain ⟨v0, v1, v2, _, _, _, hl5⟩ := HL2.out.c3 0 rfl; obtain ⟨x0, x1, x2, x3, x4, _, _, _, _, _, hl17⟩ := HL2.out.c5 4 rfl; obtain ⟨p10, _, _, q10, _, _, hl10⟩ := HL2.out.c3 1 rfl; obtain ⟨p11, _, _, _, _, q11, _, _, _, _, hl11⟩ := HL2.out.c5 2 rfl; clear hown hgrow hat)
    | (refine step_append_src _ (by rfl) (.tmp 68) (.tmp 70) 99 (by rfl) 175 j0 _ 5 40 Try.underlying99 hj jz0 jz1 jz2 rfl (by decide) (.slice (some ⟨V.heap.size + 1, 0, none⟩) 0 0) 0 [] (by rfl) (HLc.out.row 5 rfl) (.slice la s.L.length lp) s.L.length (accCells s.L) (by rfl) HRc.out (accs_one _) (by simp only [maxLen]; omega) (by omega) ?_; intro a2 c2 w2 hown hgrow hat; simp only [Nat.zero_add, List.nil_append] at hown hat ⊢; have HL2 := Lib.hid (HLc.out.grown 5 rfl hgrow hown hat); simp only [List.set_cons_succ, List.set_cons_zero] at HL2; obtain ⟨v0, v1, v2, _, _, _, hl5⟩ := HL2.out.c3 0 rfl; obtain ⟨x0, x1, x2, x3, x4, _, _, _, _, _, hl17⟩ := HL2.out.c5 4 rfl; obtain ⟨p10, _, _, q10, _, _, hl10⟩ := HL2.out.c3 1 rfl; obtain ⟨p11, _, _, _, _, q11, _, _, _, _, hl11⟩ := HL2.out.c5 2 rfl; clear hown hgrow hat)
    | (refine step_append_src _ (by rfl) (.tmp 71) (.tmp 73) 99 (by rfl) 175 j0 _ 5 40 Try.underlying99 hj jz0 jz1 jz2 rfl (by decide) (.slice a2 s.L.length c2) s.L.length (accCells s.L) (by rfl) ((HL2.out.alloc _ _).row 5 rfl) (.slice (some ⟨w2.heap.size, 0, none⟩) 1 1) 1 (Acc.cells ⟨3, q, was, y, true⟩) (by rfl) (own_box1 ((HL2.out.alloc _ _).box 6 rfl)) (acc_one _) (by simp only [maxLen]; omega) (by omega) ?_; intro a3 c3 w3 hown hgrow hat; have HL3 := Lib.hid ((HL2.out.alloc _ _).grown 5 rfl hgrow hown hat); simp only [List.set_cons_succ, List.set_cons_zero, List.cons_append, List.nil_append] at HL3; obtain ⟨v0, v1, v2, _, _, _, hl5⟩ := HL3.out.c3 0 rfl; obtain ⟨x0, x1, x2, x3, x4, _, _, _, _, _, hl17⟩ := HL3.out.c5 4 rfl; obtain ⟨p10, p101, p102, q10, q101, q102, hl10⟩ := HL3.out.c3 1 rfl; obtain ⟨p11, p111, p112, p113, p114, q11, q111, q112, q113, q114, hl11⟩ := HL3.out.c5 2 rfl; clear hown hgrow hat)
    | (refine step_append_src _ (by rfl) (.tmp 71) (.tmp 73) 99 (by rfl) 175 j0 _ 5 40 Try.underlying99 hj jz0 jz1 jz2 rfl (by decide) (.slice a2 s.L.length c2) s.L.length (accCells s.L) (by rfl) (HL2.out.row 5 rfl) (.slice (some ⟨_, 0, none⟩) 1 1) 1 (Acc.cells ⟨3, q, was, y, true⟩) (by rfl) (own_box1 (HL2.out.box 6 rfl)) (acc_one _) (by simp only [maxLen]; omega) (by omega) ?_; intro a3 c3 w3 hown hgrow hat; have HL3 := Lib.hid (HL2.out.grown 5 rfl hgrow hown hat); simp only [List.set_cons_succ, List.set_cons_zero, List.cons_append, List.nil_append] at HL3; obtain ⟨v0, v1, v2, _, _, _, hl5⟩ := HL3.out.c3 0 rfl; obtain ⟨x0, x1, x2, x3, x4, _, _, _, _, _, hl17⟩ := HL3.out.c5 4 rfl; obtain ⟨p10, p101, p102, q10, q101, q102, hl10⟩ := HL3.out.c3 1 rfl; obtain ⟨p11, p111, p112, p113, p114, q11, q111, q112, q113, q114, hl11⟩ := HL3.out.c5 2 rfl; clear hown hgrow hat))
  all_goals go_wp2
  all_goals have HLF := Lib.hid ((((((((HL3.out.set 1 rfl 0 (.slice (some ⟨g1, 0, none⟩) s.C.length c1)).set 1 rfl 1 (.int .i64 (s.most : Int))).set 1 rfl 2 (.slice a3 (s.L.length + 1) c3)).set 2 rfl 0 (.int .i64 3)).set 2 rfl 1 (.int .i64 (q : Int))).set 2 rfl 2 (.int .u64 (was : Int))).set 2 rfl 3 (.int .u64 (y : Int))).set 2 rfl 4 (.bool true))
  all_goals simp only [List.set_cons_succ, List.set_cons_zero, List.setIfInBounds_toArray] at HLF
  all_goals obtain ⟨y0, y1, y2, _, _, _, _⟩ := HLF.out.c3 1 rfl
  all_goals obtain ⟨z0, z1, z2, z3, z4, _, _, _, _, _, _⟩ := HLF.out.c5 2 rfl
  all_goals refine bodyPost_ret (v := .tuple #[.agg #[.slice (some ⟨g1, 0, none⟩) s.C.length c1, .int .i64 (s.most : Int), .slice a3 (s.L.length + 1) c3], .agg #[.int .i64 3, .int .i64 (q : Int), .int .u64 (was : Int), .int .u64 (y : Int), .bool true], .int .i64 0]) (by simp [results, Try.results120, go_sem, y0, y1, y2, z0, z1, z2, z3, z4]) rfl ?_
  all_goals exact refDo_close (x := ⟨3, q, was, y, true⟩) HA.out HLF.out rfl rfl HWAS.out hq
set_option maxHeartbeats 4000000 in
theorem refDo_swapN (w : World) (vc vl : Value) (s : Ar) (q : Nat) (was : Nat) (x y : Nat) (hne : ((was : Int) == (x : Int)) = false) (h : RefAt w vc vl s) (hq : q < s.C.length) (HWAS : Hid (s.C[q] = was)) (hL : s.L.length ≤ 1048576) :
    Calls Try.prog 120 #[refV vc s.most vl, .int .i64 3, .int .i64 (q : Int), .int .u64 (x : Int), .int .u64 (y : Int)] w (RefDid w vc vl s (s.acc 3 q was false, ⟨3, q, was, was, false⟩, 0)) := by
  obtain ⟨i0, hi, iz0, iz1, iz2⟩ := info_parts info_uint64
  obtain ⟨j0, hj, jz0, jz1, jz2⟩ := info_parts info_access
  obtain ⟨ca, cp, cur, rfl, hcur, hc1, hc2, hc3, hc4⟩ := own_form h.cel (by omega)
  obtain ⟨la, lp, rfl, hl1, hl2⟩ := own_val h.log
  have HA := Lib.hid h
  have hcl := h.clen
  have hcal : ca < w.heap.size := hcur.lt
  clear h hcur hc1 hc2 hc3 hc4 hl1 hl2
  unfold refV
  go_enter Try.func120, Try.ntmps120
  have hlt1 : ¬ (q : Int) < 0 := by omega
  have hlt2 : ¬ (s.C.length : Int) ≤ (q : Int) := by omega
  go_upto_region 3 with fail
  obtain ⟨W, hW⟩ : ∃ W, ((w.alloc (.cells #[.slice (some ⟨ca, 0, none⟩) s.C.length cp, .int .i64 (s.most : Int), .slice la s.L.length lp] 101)).alloc (.cells #[.slice none 0 0, .int .i64 0, .slice none 0 0] 101)).alloc (.cells #[.int .i64 0, .int .i64 0, .int .u64 0, .int .u64 0, .bool false] 175) = W := ⟨_, rfl⟩
  rw [hW]
  have HTW : Hid (Touch [] w W) := hW ▸ (((Touch.refl [] w).alloc _).alloc _).alloc _
  have HLW := Lib.hid ((((Led.nil' w).alloc 101 #[.slice (some ⟨ca, 0, none⟩) s.C.length cp, .int .i64 (s.most : Int), .slice la s.L.length lp]).alloc 101 #[.slice none 0 0, .int .i64 0, .slice none 0 0]).alloc 175 #[.int .i64 0, .int .i64 0, .int .u64 0, .int .u64 0, .bool false])
  rw [hW] at HLW
  simp only [List.nil_append, List.cons_append, World.size_alloc] at HLW
  have HRW := Lib.hid (HA.out.touch HTW.out)
  have cW : W.cell? ⟨ca, q, none⟩ = some (.int .u64 (was : Int)) := by
    rw [own_cell HRW.out.cel q (by rw [words_length]; exact hq)]
    simp [words, HWAS.out]
  obtain ⟨b0, _, _, _, _, _, hl5⟩ := HLW.out.c3 0 rfl
  have HE := Lib.hid (own_empty W 127 1)
  have HTE := Lib.hid ((Touch.refl [] W).alloc (.cells #[] 127))
  clear hW
  go_upto_region 17 with (at_builtin; go_must (refine wpList_append_src _ rfl (.tmp 51) (.tmp 53) 98 rfl 127 i0 (.int .u64 0) 1 8 Try.underlying98 hi iz0 iz1 iz2 rfl (by decide) (.slice (some ⟨W.heap.size, 0, none⟩) 0 0) 0 [] rfl HE.out (.slice (some ⟨ca, 0, none⟩) s.C.length cp) s.C.length (words s.C) rfl (own_touch HRW.out.cel HTE.out (by simp)) (words_one _) (by simp only [maxLen]; omega) (by omega) ?_); intro a1 c1 w1 hown hgrow hat; refine Hid.out ?_)
  rw [Nat.zero_add, List.nil_append] at hown
  rw [Nat.zero_add] at hat
  obtain ⟨g1, c1', cur1, hv1, hcur1, _, _, _, _⟩ := own_form hown (by omega)
  injection hv1 with e1 e2 e3
  subst e1 e3
  have HL1 := Lib.hid ((HLW.out.new (t' := row 127 1 (.slice (some ⟨W.heap.size, 0, none⟩) 0 0) 0 []) ⟨rfl, HE.out⟩ ⟨(Touch.refl [] W).alloc _, fun k hk => .inr (by simp [sb, Value.ownBlock] at hk; omega)⟩).grown 3 rfl hgrow hown hat)
  simp only [List.nil_append, List.cons_append, List.set_cons_succ, List.set_cons_zero] at HL1
  have hwd := HLW.out.size
  have o1 : w1.cell? ⟨g1, q, none⟩ = some (.int .u64 (was : Int)) := by
    rw [own_cell hown q (by rw [words_length]; exact hq)]
    simp [words, HWAS.out]
  have o2 := own_frozen hown q
  obtain ⟨b0, _, _, _, _, _, hl5⟩ := HL1.out.c3 0 rfl
  clear hown hgrow hat hcur1 e2 HLW HE HTE cW HTW HRW
  refine Lib.hid ?_
  go_upto_region 17 with fail
  obtain ⟨V, hV⟩ : ∃ V, (w1.setCell ⟨g1, q, none⟩ (.int .u64 (was : Int))).alloc (.cells #[.int .i64 3, .int .i64 (q : Int), .int .u64 (was : Int), .int .u64 (was : Int), .bool false] 175) = V := ⟨_, rfl⟩
  have HLV := Lib.hid ((HL1.out.rowset 3 rfl q (.int .u64 (was : Int))).alloc 175 #[.int .i64 3, .int .i64 (q : Int), .int .u64 (was : Int), .int .u64 (was : Int), .bool false])
  rw [hV, ← words_set] at HLV
  simp only [List.nil_append, List.cons_append, List.set_cons_succ, List.set_cons_zero, World.size_setCell] at HLV
  obtain ⟨b17, hb17⟩ : ∃ b17, w1.heap.size = b17 := ⟨_, rfl⟩
  rw [hV, hb17]
  rw [hb17] at HLV
  clear hV hb17 o1 o2 HL1 b0 hl5
  obtain ⟨v0, v1, v2, _, _, _, hl5⟩ := HLV.out.c3 0 rfl
  obtain ⟨x0, x1, x2, x3, x4, _, _, _, _, _, hl17⟩ := HLV.out.c5 4 rfl
  obtain ⟨_, _, _, _, _, _, hl10⟩ := HLV.out.c3 1 rfl
  obtain ⟨_, _, _, _, _, _, _, _, _, _, hl11⟩ := HLV.out.c5 2 rfl
  have n1 := HLV.out.ne 4 1 rfl rfl (by decide)
  have n2 := HLV.out.ne 4 2 rfl rfl (by decide)
  have n3 := Ne.symm n1
  have n4 := Ne.symm n2
  have n5 : w.heap.size ≠ w.heap.size + 1 + 1 := by omega
  have n6 : w.heap.size + 1 + 1 ≠ w.heap.size := by omega
  have HRV : Hid (V.ownsRow 0 175 5 (.slice la s.L.length lp) s.L.length (accCells s.L)) := own_keep HA.out.log (fun k hk => HLV.out.below.block k (own_lt HA.out.log k hk))
  -- the three orders in which the makers of memory come up
  have HLa := Lib.hid ((HLV.out.emptyR 175 5).drew)
  have HLb := Lib.hid (((HLV.out.emptyR 175 5).alloc 175 #[.int .i64 3, .int .i64 (q : Int), .int .u64 (was : Int), .int .u64 (was : Int), .bool false]).drew)
  have HLc := Lib.hid ((((HLV.out.alloc 175 #[.int .i64 3, .int .i64 (q : Int), .int .u64 (was : Int), .int .u64 (was : Int), .bool false]).emptyR 175 5).drew).pick [0, 1, 2, 3, 4, 6, 5] (by decide) (by simp))
  simp only [List.nil_append, List.cons_append, World.size_alloc, List.filterMap_cons, List.filterMap_nil, List.getElem?_cons_zero, List.getElem?_cons_succ] at HLa HLb HLc
  have HRa := Lib.hid (own_drew (HRV.out.alloc (.cells #[] 175)))
  have HRb := Lib.hid (own_drew ((HRV.out.alloc (.cells #[] 175)).alloc (.cells #[.int .i64 3, .int .i64 (q : Int), .int .u64 (was : Int), .int .u64 (was : Int), .bool false] 175)))
  have HRc := Lib.hid (own_drew ((HRV.out.alloc (.cells #[.int .i64 3, .int .i64 (q : Int), .int .u64 (was : Int), .int .u64 (was : Int), .bool false] 175)).alloc (.cells #[] 175)))
  go_region_held3 (fun w' => w'.cell? ⟨w.heap.size, 1, none⟩ = some (.int .i64 (s.most : Int)) ∧ w'.cell? ⟨w.heap.size, 2, none⟩ = some (.slice la s.L.length lp) ∧ w'.cell? ⟨b17, 0, none⟩ = some (.int .i64 3) ∧ w'.cell? ⟨b17, 1, none⟩ = some (.int .i64 (q : Int)) ∧ w'.cell? ⟨b17, 2, none⟩ = some (.int .u64 (was : Int)) ∧ w'.cell? ⟨b17, 3, none⟩ = some (.int .u64 (was : Int)) ∧ w'.cell? ⟨b17, 4, none⟩ = some (.bool false)) (go_keep) (first
    | (refine step_append_src _ (by rfl) (.tmp 68) (.tmp 70) 99 (by rfl) 175 j0 _ 5 40 Try.underlying99 hj jz0 jz1 jz2 rfl (by decide) (.slice (some ⟨V.heap.size, 0, none⟩) 0 0) 0 [] (by rfl) (HLa.out.row 5 rfl) (.slice la s.L.length lp) s.L.length (accCells s.L) (by rfl) HRa.out (accs_one _) (by simp only [maxLen]; omega) (by omega) ?_; intro a2 c2 w2 hown hgrow hat; simp only [Nat.zero_add, List.nil_append] at hown hat ⊢; have HL2 := Lib.hid (HLa.out.grown 5 rfl hgrow hown hat); simp only [List.set_cons_succ, List.set_cons_zero] at HL2; obtain ⟨v0, v1, v2, _, _, _, hl5⟩ := HL2.out.c3 0 rfl; obtain ⟨x0, x1, x2, x3, x4, _, _, _, _, _, hl17⟩ := HL2.out.c5 4 rfl; obtain ⟨p10, _, _, q10, _, _, hl10⟩ := HL2.out.c3 1 rfl; obtain ⟨p11, _, _, _, _, q11, _, _, _, _, hl11⟩ := HL2.out.c5 2 rfl; clear hown hgrow hat)
    | (refine step_append_src _ (by rfl) (.tmp 68) (.tmp 70) 99 (by rfl) 175 j0 _ 5 40 Try.underlying99 hj jz0 jz1 jz2 rfl (by decide) (.slice (some ⟨V.heap.size, 0, none⟩) 0 0) 0 [] (by rfl) (HLb.out.row 5 rfl) (.slice la s.L.length lp) s.L.length (accCells s.L) (by rfl) HRb.out (accs_one _) (by simp only [maxLen]; omega) (by omega) ?_; intro a2 c2 w2 hown hgrow hat; simp only [Nat.zero_add, List.nil_append] at hown hat ⊢; have HL2 := Lib.hid (HLb.out.grown 5 rfl hgrow hown hat); simp only [List.set_cons_succ, List.set_cons_zero] at HL2; obtain ⟨v0, v1, v2, _, _, _, hl5⟩ := HL2.out.c3 0 rfl; obtain ⟨x0, x1, x2, x3, x4, _, _, _, _, _, hl17⟩ := HL2.out.c5 4 rfl; obtain ⟨p10, _, _, q10, _, _, hl10⟩ := HL2.out.c3 1 rfl; obtain ⟨p11, _, _, _, _, q11, _, _, _, _, hl11⟩ := HL2.out.c5 2 rfl; clear hown hgrow hat)
    | (refine step_append_src _ (by rfl) (.tmp 68) (.tmp 70) 99 (by rfl) 175 j0 _ 5 40 Try.underlying99 hj jz0 jz1 jz2 rfl (by decide) (.slice (some ⟨V.heap.size + 1, 0, none⟩) 0 0) 0 [] (by rfl) (HLc.out.row 5 rfl) (.slice la s.L.length lp) s.L.length (accCells s.L) (by rfl) HRc.out (accs_one _) (by simp only [maxLen]; omega) (by omega) ?_; intro a2 c2 w2 hown hgrow hat; simp only [Nat.zero_add, List.nil_append] at hown hat ⊢; have HL2 := Lib.hid (HLc.out.grown 5 rfl hgrow hown hat); simp only [List.set_cons_succ, List.set_cons_zero] at HL2; obtain ⟨v0, v1, v2, _, _, _, hl5⟩ := HL2.out.c3 0 rfl; obtain ⟨x0, x1, x2, x3, x4, _, _, _, _, _, hl17⟩ := HL2.out.c5 4 rfl; obtain ⟨p10, _, _, q10, _, _, hl10⟩ := HL2.out.c3 1 rfl; obtain ⟨p11, _, _, _, _, q11, _, _, _, _, hl11⟩ := HL2.out.c5 2 rfl; clear hown hgrow hat)
    | (refine step_append_src _ (by rfl) (.tmp 71) (.tmp 73) 99 (by rfl) 175 j0 _ 5 40 Try.underlying99 hj jz0 jz1 jz2 rfl (by decide) (.slice a2 s.L.length c2) s.L.length (accCells s.L) (by rfl) ((HL2.out.alloc _ _).row 5 rfl) (.slice (some ⟨w2.heap.size, 0, none⟩) 1 1) 1 (Acc.cells ⟨3, q, was, was, false⟩) (by rfl) (own_box1 ((HL2.out.alloc _ _).box 6 rfl)) (acc_one _) (by simp only [maxLen]; omega) (by omega) ?_; intro a3 c3 w3 hown hgrow hat; have HL3 := Lib.hid ((HL2.out.alloc _ _).grown 5 rfl hgrow hown hat); simp only [List.set_cons_succ, List.set_cons_zero, List.cons_append, List.nil_append] at HL3; obtain ⟨v0, v1, v2, _, _, _, hl5⟩ := HL3.out.c3 0 rfl; obtain ⟨x0, x1, x2, x3, x4, _, _, _, _, _, hl17⟩ := HL3.out.c5 4 rfl; obtain ⟨p10, p101, p102, q10, q101, q102, hl10⟩ := HL3.out.c3 1 rfl; obtain ⟨p11, p111, p112, p113, p114, q11, q111, q112, q113, q114, hl11⟩ := HL3.out.c5 2 rfl; clear hown hgrow hat)
    | (refine step_append_src _ (by rfl) (.tmp 71) (.tmp 73) 99 (by rfl) 175 j0 _ 5 40 Try.underlying99 hj jz0 jz1 jz2 rfl (by decide) (.slice a2 s.L.length c2) s.L.length (accCells s.L) (by rfl) (HL2.out.row 5 rfl) (.slice (some ⟨_, 0, none⟩) 1 1) 1 (Acc.cells ⟨3, q, was, was, false⟩) (by rfl) (own_box1 (HL2.out.box 6 rfl)) (acc_one _) (by simp only [maxLen]; omega) (by omega) ?_; intro a3 c3 w3 hown hgrow hat; have HL3 := Lib.hid (HL2.out.grown 5 rfl hgrow hown hat); simp only [List.set_cons_succ, List.set_cons_zero, List.cons_append, List.nil_append] at HL3; obtain ⟨v0, v1, v2, _, _, _, hl5⟩ := HL3.out.c3 0 rfl; obtain ⟨x0, x1, x2, x3, x4, _, _, _, _, _, hl17⟩ := HL3.out.c5 4 rfl; obtain ⟨p10, p101, p102, q10, q101, q102, hl10⟩ := HL3.out.c3 1 rfl; obtain ⟨p11, p111, p112, p113, p114, q11, q111, q112, q113, q114, hl11⟩ := HL3.out.c5 2 rfl; clear hown hgrow hat))
  all_goals go_wp2
  all_goals have HLF := Lib.hid ((((((((HL3.out.set 1 rfl 0 (.slice (some ⟨g1, 0, none⟩) s.C.length c1)).set 1 rfl 1 (.int .i64 (s.most : Int))).set 1 rfl 2 (.slice a3 (s.L.length + 1) c3)).set 2 rfl 0 (.int .i64 3)).set 2 rfl 1 (.int .i64 (q : Int))).set 2 rfl 2 (.int .u64 (was : Int))).set 2 rfl 3 (.int .u64 (was : Int))).set 2 rfl 4 (.bool false))
  all_goals simp only [List.set_cons_succ, List.set_cons_zero, List.setIfInBounds_toArray] at HLF
  all_goals obtain ⟨y0, y1, y2, _, _, _, _⟩ := HLF.out.c3 1 rfl
  all_goals obtain ⟨z0, z1, z2, z3, z4, _, _, _, _, _, _⟩ := HLF.out.c5 2 rfl
  all_goals refine bodyPost_ret (v := .tuple #[.agg #[.slice (some ⟨g1, 0, none⟩) s.C.length c1, .int .i64 (s.most : Int), .slice a3 (s.L.length + 1) c3], .agg #[.int .i64 3, .int .i64 (q : Int), .int .u64 (was : Int), .int .u64 (was : Int), .bool false], .int .i64 0]) (by simp [results, Try.results120, go_sem, y0, y1, y2, z0, z1, z2, z3, z4]) rfl ?_
  all_goals exact refDo_close (x := ⟨3, q, was, was, false⟩) HA.out HLF.out rfl rfl HWAS.out hq
end Go.Proofs.Ytihmbgdkllmkaaa

/-
  The reference of law 01: Do: an addition; all four.
-/
namespace Go.Proofs.Ytihmbgdkllmkaaa
open Go.RowKit Go.Shelf
set_option maxRecDepth 100000
set_option linter.unusedVariables false
set_option linter.unusedSimpArgs false


set_option maxHeartbeats 4000000 in
theorem refDo_add (w : World) (vc vl : Value) (s : Ar) (q : Nat) (was : Nat) (n now : Nat) (y : Int) (hnow : IntKind.u64.wrap ((was : Int) + (n : Int)) = (now : Int)) (h : RefAt w vc vl s) (hq : q < s.C.length) (HWAS : Hid (s.C[q] = was)) (hL : s.L.length ≤ 1048576) :
    Calls Try.prog 120 #[refV vc s.most vl, .int .i64 4, .int .i64 (q : Int), .int .u64 (n : Int), .int .u64 y] w (RefDid w vc vl s (s.acc 4 q now true, ⟨4, q, was, now, true⟩, 0)) := by
  obtain ⟨i0, hi, iz0, iz1, iz2⟩ := info_parts info_uint64
  obtain ⟨j0, hj, jz0, jz1, jz2⟩ := info_parts info_access
  obtain ⟨ca, cp, cur, rfl, hcur, hc1, hc2, hc3, hc4⟩ := own_form h.cel (by omega)
  obtain ⟨la, lp, rfl, hl1, hl2⟩ := own_val h.log
  have HA := Lib.hid h
  have hcl := h.clen
  have hcal : ca < w.heap.size := hcur.lt
  clear h hcur hc1 hc2 hc3 hc4 hl1 hl2
  unfold refV
  go_enter Try.func120, Try.ntmps120
  have hlt1 : ¬ (q : Int) < 0 := by omega
  have hlt2 : ¬ (s.C.length : Int) ≤ (q : Int) := by omega
  go_upto_region 3 with fail
  obtain ⟨W, hW⟩ : ∃ W, ((w.alloc (.cells #[.slice (some ⟨ca, 0, none⟩) s.C.length cp, .int .i64 (s.most : Int), .slice la s.L.length lp] 101)).alloc (.cells #[.slice none 0 0, .int .i64 0, .slice none 0 0] 101)).alloc (.cells #[.int .i64 0, .int .i64 0, .int .u64 0, .int .u64 0, .bool false] 175) = W := ⟨_, rfl⟩
  rw [hW]
  have HTW : Hid (Touch [] w W) := hW ▸ (((Touch.refl [] w).alloc _).alloc _).alloc _
  have HLW := Lib.hid ((((Led.nil' w).alloc 101 #[.slice (some ⟨ca, 0, none⟩) s.C.length cp, .int .i64 (s.most : Int), .slice la s.L.length lp]).alloc 101 #[.slice none 0 0, .int .i64 0, .slice none 0 0]).alloc 175 #[.int .i64 0, .int .i64 0, .int .u64 0, .int .u64 0, .bool false])
  rw [hW] at HLW
  simp only [List.nil_append, List.cons_append, World.size_alloc] at HLW
  have HRW := Lib.hid (HA.out.touch HTW.out)
  have cW : W.cell? ⟨ca, q, none⟩ = some (.int .u64 (was : Int)) := by
    rw [own_cell HRW.out.cel q (by rw [words_length]; exact hq)]
    simp [words, HWAS.out]
  obtain ⟨b0, _, _, _, _, _, hl5⟩ := HLW.out.c3 0 rfl
  have HE := Lib.hid (own_empty W 127 1)
  have HTE := Lib.hid ((Touch.refl [] W).alloc (.cells #[] 127))
  clear hW
  go_upto_region 17 with (at_builtin; go_must (refine wpList_append_src _ rfl (.tmp 51) (.tmp 53) 98 rfl 127 i0 (.int .u64 0) 1 8 Try.underlying98 hi iz0 iz1 iz2 rfl (by decide) (.slice (some ⟨W.heap.size, 0, none⟩) 0 0) 0 [] rfl HE.out (.slice (some ⟨ca, 0, none⟩) s.C.length cp) s.C.length (words s.C) rfl (own_touch HRW.out.cel HTE.out (by simp)) (words_one _) (by simp only [maxLen]; omega) (by omega) ?_); intro a1 c1 w1 hown hgrow hat; refine Hid.out ?_)
  rw [Nat.zero_add, List.nil_append] at hown
  rw [Nat.zero_add] at hat
  obtain ⟨g1, c1', cur1, hv1, hcur1, _, _, _, _⟩ := own_form hown (by omega)
  injection hv1 with e1 e2 e3
  subst e1 e3
  have HL1 := Lib.hid ((HLW.out.new (t' := row 127 1 (.slice (some ⟨W.heap.size, 0, none⟩) 0 0) 0 []) ⟨rfl, HE.out⟩ ⟨(Touch.refl [] W).alloc _, fun k hk => .inr (by simp [sb, Value.ownBlock] at hk; omega)⟩).grown 3 rfl hgrow hown hat)
  simp only [List.nil_append, List.cons_append, List.set_cons_succ, List.set_cons_zero] at HL1
  have hwd := HLW.out.size
  have o1 : w1.cell? ⟨g1, q, none⟩ = some (.int .u64 (was : Int)) := by
    rw [own_cell hown q (by rw [words_length]; exact hq)]
    simp [words, HWAS.out]
  have o2 := own_frozen hown q
  obtain ⟨b0, _, _, _, _, _, hl5⟩ := HL1.out.c3 0 rfl
  clear hown hgrow hat hcur1 e2 HLW HE HTE cW HTW HRW
  refine Lib.hid ?_
  go_upto_region 17 with fail
  obtain ⟨V, hV⟩ : ∃ V, (w1.setCell ⟨g1, q, none⟩ (.int .u64 (now : Int))).alloc (.cells #[.int .i64 4, .int .i64 (q : Int), .int .u64 (was : Int), .int .u64 (now : Int), .bool true] 175) = V := ⟨_, rfl⟩
  have HLV := Lib.hid ((HL1.out.rowset 3 rfl q (.int .u64 (now : Int))).alloc 175 #[.int .i64 4, .int .i64 (q : Int), .int .u64 (was : Int), .int .u64 (now : Int), .bool true])
  rw [hV, ← words_set] at HLV
  simp only [List.nil_append, List.cons_append, List.set_cons_succ, List.set_cons_zero, World.size_setCell] at HLV
  obtain ⟨b17, hb17⟩ : ∃ b17, w1.heap.size = b17 := ⟨_, rfl⟩
  rw [hV, hb17]
  rw [hb17] at HLV
  clear hV hb17 o1 o2 HL1 b0 hl5
  obtain ⟨v0, v1, v2, _, _, _, hl5⟩ := HLV.out.c3 0 rfl
  obtain ⟨x0, x1, x2, x3, x4, _, _, _, _, _, hl17⟩ := HLV.out.c5 4 rfl
  obtain ⟨_, _, _, _, _, _, hl10⟩ := HLV.out.c3 1 rfl
  obtain ⟨_, _, _, _, _, _, _, _, _, _, hl11⟩ := HLV.out.c5 2 rfl
  have n1 := HLV.out.ne 4 1 rfl rfl (by decide)
  have n2 := HLV.out.ne 4 2 rfl rfl (by decide)
  have n3 := Ne.symm n1
  have n4 := Ne.symm n2
  have n5 : w.heap.size ≠ w.heap.size + 1 + 1 := by omega
  have n6 : w.heap.size + 1 + 1 ≠ w.heap.size := by omega
  have HRV : Hid (V.ownsRow 0 175 5 (.slice la s.L.length lp) s.L.length (accCells s.L)) := own_keep HA.out.log (fun k hk => HLV.out.below.block k (own_lt HA.out.log k hk))
  -- the three orders in which the makers of memory come up
  have HLa := Lib.hid ((HLV.out.emptyR 175 5).drew)
  have HLb := Lib.hid (((HLV.out.emptyR 175 5).alloc 175 #[.int .i64 4, .int .i64 (q : Int), .int .u64 (was : Int), .int .u64 (now : Int), .bool true]).drew)
  have HLc := Lib.hid ((((HLV.out.alloc 175 #[.int .i64 4, .int .i64 (q : Int), .int .u64 (was : Int), .int .u64 (now : Int), .bool true]).emptyR 175 5).drew).pick [0, 1, 2, 3, 4, 6, 5] (by decide) (by simp))
  simp only [List.nil_append, List.cons_append, World.size_alloc, List.filterMap_cons, List.filterMap_nil, List.getElem?_cons_zero, List.getElem?_cons_succ] at HLa HLb HLc
  have HRa := Lib.hid (own_drew (HRV.out.alloc (.cells #[] 175)))
  have HRb := Lib.hid (own_drew ((HRV.out.alloc (.cells #[] 175)).alloc (.cells #[.int .i64 4, .int .i64 (q : Int), .int .u64 (was : Int), .int .u64 (now : Int), .bool true] 175)))
  have HRc := Lib.hid (own_drew ((HRV.out.alloc (.cells #[.int .i64 4, .int .i64 (q : Int), .int .u64 (was : Int), .int .u64 (now : Int), .bool true] 175)).alloc (.cells #[] 175)))
  go_region_held3 (fun w' => w'.cell? ⟨w.heap.size, 1, none⟩ = some (.int .i64 (s.most : Int)) ∧ w'.cell? ⟨w.heap.size, 2, none⟩ = some (.slice la s.L.length lp) ∧ w'.cell? ⟨b17, 0, none⟩ = some (.int .i64 4) ∧ w'.cell? ⟨b17, 1, none⟩ = some (.int .i64 (q : Int)) ∧ w'.cell? ⟨b17, 2, none⟩ = some (.int .u64 (was : Int)) ∧ w'.cell? ⟨b17, 3, none⟩ = some (.int .u64 (now : Int)) ∧ w'.cell? ⟨b17, 4, none⟩ = some (.bool true)) (go_keep) (first
    | (refine step_append_src _ (by rfl) (.tmp 68) (.tmp 70) 99 (by rfl) 175 j0 _ 5 40 Try.underlying99 hj jz0 jz1 jz2 rfl (by decide) (.slice (some ⟨V.heap.size, 0, none⟩) 0 0) 0 [] (by rfl) (HLa.out.row 5 rfl) (.slice la s.L.length lp) s.L.length (accCells s.L) (by rfl) HRa.out (accs_one _) (by simp only [maxLen]; omega) (by omega) ?_; intro a2 c2 w2 hown hgrow hat; simp only [Nat.zero_add, List.nil_append] at hown hat ⊢; have HL2 := Lib.hid (HLa.out.grown 5 rfl hgrow hown hat); simp only [List.set_cons_succ, List.set_cons_zero] at HL2; obtain ⟨v0, v1, v2, _, _, _, hl5⟩ := HL2.out.c3 0 rfl; obtain ⟨x0, x1, x2, x3, x4, _, _, _, _, _, hl17⟩ := HL2.out.c5 4 rfl; obtain ⟨p10, _, _, q10, _, _, hl10⟩ := HL2.out.c3 1 rfl; obtain ⟨p11, _, _, _, _, q11, _, _, _, _, hl11⟩ := HL2.out.c5 2 rfl; clear hown hgrow hat)
    | (refine step_append_src _ (by rfl) (.tmp 68) (.tmp 70) 99 (by rfl) 175 j0 _ 5 40 Try.underlying99 hj jz0 jz1 jz2 rfl (by decide) (.slice (some ⟨V.heap.size, 0, none⟩) 0 0) 0 [] (by rfl) (HLb.out.row 5 rfl) (.slice la s.L.length lp) s.L.length (accCells s.L) (by rfl) HRb.out (accs_one _) (by simp only [maxLen]; omega) (by omega) ?_; intro a2 c2 w2 hown hgrow hat; simp only [Nat.zero_add, List.nil_append] at hown hat ⊢; have HL2 := Lib.hid (HLb.out.grown 5 rfl hgrow hown hat); simp only [List.set_cons_succ, List.set_cons_zero] at HL2; obtain ⟨v0, v1, v2, _, _, _, hl5⟩ := HL2.out.c3 0 rfl; obtain ⟨x0, x1, x2, x3, x4, _, _, _, _, _, hl17⟩ := HL2.out.c5 4 rfl; obtain ⟨p10, _, _, q10, _, _, hl10⟩ := HL2.out.c3 1 rfl; obtain ⟨p11, _, _, _, _, q11, _, _, _, _, hl11⟩ := HL2.out.c5 2 rfl; clear hown hgrow hat)
    | (refine step_append_src _ (by rfl) (.tmp 68) (.tmp 70) 99 (by rfl) 175 j0 _ 5 40 Try.underlying99 hj jz0 jz1 jz2 rfl (by decide) (.slice (some ⟨V.heap.size + 1, 0, none⟩) 0 0) 0 [] (by rfl) (HLc.out.row 5 rfl) (.slice la s.L.length lp) s.L.length (accCells s.L) (by rfl) HRc.out (accs_one _) (by simp only [maxLen]; omega) (by omega) ?_; intro a2 c2 w2 hown hgrow hat; simp only [Nat.zero_add, List.nil_append] at hown hat ⊢; have HL2 := Lib.hid (HLc.out.grown 5 rfl hgrow hown hat); simp only [List.set_cons_succ, List.set_cons_zero] at HL2; obtain ⟨v0, v1, v2, _, _, _, hl5⟩ := HL2.out.c3 0 rfl; obtain ⟨x0, x1, x2, x3, x4, _, _, _, _, _, hl17⟩ := HL2.out.c5 4 rfl; obtain ⟨p10, _, _, q10, _, _, hl10⟩ := HL2.out.c3 1 rfl; obtain ⟨p11, _, _, _, _, q11, _, _, _, _, hl11⟩ := HL2.out.c5 2 rfl; clear hown hgrow hat)
    | (refine step_append_src _ (by rfl) (.tmp 71) (.tmp 73) 99 (by rfl) 175 j0 _ 5 40 Try.underlying99 hj jz0 jz1 jz2 rfl (by decide) (.slice a2 s.L.length c2) s.L.length (accCells s.L) (by rfl) ((HL2.out.alloc _ _).row 5 rfl) (.slice (some ⟨w2.heap.size, 0, none⟩) 1 1) 1 (Acc.cells ⟨4, q, was, now, true⟩) (by rfl) (own_box1 ((HL2.out.alloc _ _).box 6 rfl)) (acc_one _) (by simp only [maxLen]; omega) (by omega) ?_; intro a3 c3 w3 hown hgrow hat; have HL3 := Lib.hid ((HL2.out.alloc _ _).grown 5 rfl hgrow hown hat); simp only [List.set_cons_succ, List.set_cons_zero, List.cons_append, List.nil_append] at HL3; obtain ⟨v0, v1, v2, _, _, _, hl5⟩ := HL3.out.c3 0 rfl; obtain ⟨x0, x1, x2, x3, x4, _, _, _, _, _, hl17⟩ := HL3.out.c5 4 rfl; obtain ⟨p10, p101, p102, q10, q101, q102, hl10⟩ := HL3.out.c3 1 rfl; obtain ⟨p11, p111, p112, p113, p114, q11, q111, q112, q113, q114, hl11⟩ := HL3.out.c5 2 rfl; clear hown hgrow hat)
    | (refine step_append_src _ (by rfl) (.tmp 71) (.tmp 73) 99 (by rfl) 175 j0 _ 5 40 Try.underlying99 hj jz0 jz1 jz2 rfl (by decide) (.slice a2 s.L.length c2) s.L.length (accCells s.L) (by rfl) (HL2.out.row 5 rfl) (.slice (some ⟨_, 0, none⟩) 1 1) 1 (Acc.cells ⟨4, q, was, now, true⟩) (by rfl) (own_box1 (HL2.out.box 6 rfl)) (acc_one _) (by simp only [maxLen]; omega) (by omega) ?_; intro a3 c3 w3 hown hgrow hat; have HL3 := Lib.hid (HL2.out.grown 5 rfl hgrow hown hat); simp only [List.set_cons_succ, List.set_cons_zero, List.cons_append, List.nil_append] at HL3; obtain ⟨v0, v1, v2, _, _, _, hl5⟩ := HL3.out.c3 0 rfl; obtain ⟨x0, x1, x2, x3, x4, _, _, _, _, _, hl17⟩ := HL3.out.c5 4 rfl; obtain ⟨p10, p101, p102, q10, q101, q102, hl10⟩ := HL3.out.c3 1 rfl; obtain ⟨p11, p111, p112, p113, p114, q11, q111, q112, q113, q114, hl11⟩ := HL3.out.c5 2 rfl; clear hown hgrow hat))
  all_goals go_wp2
  all_goals have HLF := Lib.hid ((((((((HL3.out.set 1 rfl 0 (.slice (some ⟨g1, 0, none⟩) s.C.length c1)).set 1 rfl 1 (.int .i64 (s.most : Int))).set 1 rfl 2 (.slice a3 (s.L.length + 1) c3)).set 2 rfl 0 (.int .i64 4)).set 2 rfl 1 (.int .i64 (q : Int))).set 2 rfl 2 (.int .u64 (was : Int))).set 2 rfl 3 (.int .u64 (now : Int))).set 2 rfl 4 (.bool true))
  all_goals simp only [List.set_cons_succ, List.set_cons_zero, List.setIfInBounds_toArray] at HLF
  all_goals obtain ⟨y0, y1, y2, _, _, _, _⟩ := HLF.out.c3 1 rfl
  all_goals obtain ⟨z0, z1, z2, z3, z4, _, _, _, _, _, _⟩ := HLF.out.c5 2 rfl
  all_goals refine bodyPost_ret (v := .tuple #[.agg #[.slice (some ⟨g1, 0, none⟩) s.C.length c1, .int .i64 (s.most : Int), .slice a3 (s.L.length + 1) c3], .agg #[.int .i64 4, .int .i64 (q : Int), .int .u64 (was : Int), .int .u64 (now : Int), .bool true], .int .i64 0]) (by simp [results, Try.results120, go_sem, y0, y1, y2, z0, z1, z2, z3, z4]) rfl ?_
  all_goals exact refDo_close (x := ⟨4, q, was, now, true⟩) HA.out HLF.out rfl rfl HWAS.out hq

theorem doBy_in (s : Ar) (op q : Nat) (chg : Nat → Nat × Bool) (hq : q < s.C.length) (now : Nat) (did : Bool) (h1 : (if (chg s.C[q]).2 then (chg s.C[q]).1 else s.C[q]) = now) (h2 : (chg s.C[q]).2 = did) :
    s.doBy op (q : Int) chg = (s.acc op q now did, ⟨op, q, s.C[q], now, did⟩, 0) := by
  have hg : s.C.getD q 0 = s.C[q] := by simp [List.getD, hq]
  simp only [Ar.doBy]
  rw [if_pos ⟨by omega, by omega⟩]
  simp only [Int.toNat_natCast, hg, h1]
  rw [h2]
section
variable (w : World) (vc vl : Value) (s : Ar) (at_ : Int) (h : RefAt w vc vl s) (hL : s.L.length ≤ 1048576)
include h hL
theorem refLoad (x y : Int) : Calls Try.prog 120 #[refV vc s.most vl, .int .i64 1, .int .i64 at_, .int .u64 x, .int .u64 y] w (RefDid w vc vl s (s.load at_)) := by
  by_cases hin : 0 ≤ at_ ∧ at_ < (s.C.length : Int)
  · obtain ⟨q, rfl⟩ := Int.eq_ofNat_of_zero_le hin.1
    have hq : q < s.C.length := by omega
    rw [Ar.load, doBy_in s 1 q chgLoad hq s.C[q] true (by simp [chgLoad]) rfl]
    exact refDo_load w vc vl s q s.C[q] x y h hq rfl hL
  · exact refDo_out w vc vl s 1 at_ x y h hin _
theorem refStore (v : Nat) (y : Int) : Calls Try.prog 120 #[refV vc s.most vl, .int .i64 2, .int .i64 at_, .int .u64 (v : Int), .int .u64 y] w (RefDid w vc vl s (s.store at_ v)) := by
  by_cases hin : 0 ≤ at_ ∧ at_ < (s.C.length : Int)
  · obtain ⟨q, rfl⟩ := Int.eq_ofNat_of_zero_le hin.1
    have hq : q < s.C.length := by omega
    rw [Ar.store, doBy_in s 2 q (chgStore v) hq v true (by simp [chgStore]) rfl]
    exact refDo_store w vc vl s q s.C[q] v y h hq rfl hL
  · exact refDo_out w vc vl s 2 at_ v y h hin _
theorem refSwap (x y : Nat) : Calls Try.prog 120 #[refV vc s.most vl, .int .i64 3, .int .i64 at_, .int .u64 (x : Int), .int .u64 (y : Int)] w (RefDid w vc vl s (s.swap at_ x y)) := by
  by_cases hin : 0 ≤ at_ ∧ at_ < (s.C.length : Int)
  · obtain ⟨q, rfl⟩ := Int.eq_ofNat_of_zero_le hin.1
    have hq : q < s.C.length := by omega
    by_cases hx : s.C[q] = x
    · rw [Ar.swap, doBy_in s 3 q (chgSwap x y) hq y true (by simp [chgSwap, hx]) (by simp [chgSwap, hx])]
      have := refDo_swapY w vc vl s q s.C[q] y h hq rfl hL
      rwa [hx] at this ⊢
    · rw [Ar.swap, doBy_in s 3 q (chgSwap x y) hq s.C[q] false (by simp [chgSwap, hx]) (by simp [chgSwap, hx])]
      exact refDo_swapN w vc vl s q s.C[q] x y (by simp; omega) h hq rfl hL
  · exact refDo_out w vc vl s 3 at_ x y h hin _
theorem refAdd (n : Nat) (y : Int) : Calls Try.prog 120 #[refV vc s.most vl, .int .i64 4, .int .i64 at_, .int .u64 (n : Int), .int .u64 y] w (RefDid w vc vl s (s.add at_ n)) := by
  by_cases hin : 0 ≤ at_ ∧ at_ < (s.C.length : Int)
  · obtain ⟨q, rfl⟩ := Int.eq_ofNat_of_zero_le hin.1
    have hq : q < s.C.length := by omega
    rw [Ar.add, doBy_in s 4 q (chgAdd n) hq ((s.C[q] + n) % 18446744073709551616) true (by simp [chgAdd]) rfl]
    exact refDo_add w vc vl s q s.C[q] n ((s.C[q] + n) % 18446744073709551616) y (by rw [IntKind.wrap_u64]; omega) h hq rfl hL
  · exact refDo_out w vc vl s 4 at_ n y h hin _
end
end Go.Proofs.Ytihmbgdkllmkaaa

/-
  The reference's arena of layer 1 as a thing of the ledger; its calls.
-/
namespace Go.Proofs.Ytihmbgdkllmkaaa
open Go.RowKit Go.Shelf
set_option maxRecDepth 100000
set_option linter.unusedVariables false

/-- The reference's arena of which the two slices are vc, vl is s. -/
def refT (vc vl : Value) (s : Ar) : Thing where
  holds w fp := RefAt w vc vl s ∧ (∀ k ∈ sb vc ++ sb vl, k ∈ fp) ∧ ∀ k ∈ fp, k < w.heap.size
  keep := fun {w w' fp} ⟨h1, h2, h3⟩ he => ⟨h1.keep (fun b hb => he b (h2 b hb)), h2, fun k hk => by
    have := he k hk
    rw [Array.getElem?_eq_getElem (h3 k hk)] at this
    exact (Array.getElem?_eq_some_iff.1 this).1⟩
  lt := fun ⟨_, _, h⟩ => h
section
variable {T : List Nat} {w0 w w' : World} {l : List Thing} {vc vl : Value} {s s' : Ar}
theorem Led.refAt (h : Led T w0 w l) (i : Nat) (hi : l[i]? = some (refT vc vl s)) : RefAt w vc vl s := let ⟨_, h, _⟩ := h.get i hi; h.1
theorem Led.refStep (h : Led T w0 w l) (i : Nat) (hi : l[i]? = some (refT vc vl s)) {vc' vl' : Value} (hr : RefAt w' vc' vl' s') (ht : Touch [] w w') (hn : ∀ b ∈ sb vc' ++ sb vl', b ∈ sb vc ++ sb vl ∨ w.heap.size ≤ b) : Led T w0 w' (l.set i (refT vc' vl' s')) := by
  obtain ⟨f, ⟨h1, h2, h3⟩, _, hs⟩ := h.step i hi
  refine hs w' (refT vc' vl' s') (f ++ (sb vc' ++ sb vl')) ⟨hr, fun k hk => List.mem_append_right _ hk, fun k hk => ?_⟩ ⟨ht.mono (by simp), fun k hk => ?_⟩
  · rcases List.mem_append.1 hk with h | h
    · exact Nat.lt_of_lt_of_le (h3 k h) ht.size
    · rcases List.mem_append.1 h with h | h
      · exact own_lt hr.cel k h
      · exact own_lt hr.log k h
  · rcases List.mem_append.1 hk with h | h
    · exact .inl h
    · exact (hn k h).imp (h2 k) id
theorem Led.refDid (h : Led T w0 w l) (i : Nat) (hi : l[i]? = some (refT vc vl s)) {f : Nat} {args : Array Value} {r : Ar × Acc × Nat} (hc : RefAt w vc vl s → Calls Try.prog f args w (RefDid w vc vl s r)) :
    Calls Try.prog f args w fun e w' => ∃ vc' vl', e = .returned (.tuple #[refV vc' s.most vl', r.2.1.val, .int .i64 (r.2.2 : Int)]) ∧ Led T w0 w' (l.set i (refT vc' vl' r.1)) := by
  refine (hc (h.refAt i hi)).mono ?_
  rintro e w' ⟨vc', vl', rfl, hr, ht, hn⟩
  exact ⟨vc', vl', rfl, h.refStep i hi hr ht hn⟩
theorem Led.refAlloc (h : Led T w0 w l) (i : Nat) (hi : l[i]? = some (refT vc vl s)) (n : Int) :
    Calls Try.prog 90 #[refV vc s.most vl, .int .i64 n] w fun e w' => ∃ vc', e = .returned (.tuple #[refV vc' s.most vl, .int .i64 ((s.allocA n).2.1 : Int), .int .i64 ((s.allocA n).2.2 : Int)]) ∧ Led T w0 w' (l.set i (refT vc' vl (s.allocA n).1)) := by
  refine (Proofs.Ytihmbgdkllmkaaa.refAlloc w vc vl s n (h.refAt i hi)).mono ?_
  rintro e w' ⟨vc', rfl, hr, ht, hn⟩
  refine ⟨vc', rfl, h.refStep i hi hr ht (fun b hb => ?_)⟩
  rcases List.mem_append.1 hb with hb | hb
  · exact (hn b hb).imp (fun h => List.mem_append_left _ h) id
  · exact .inl (List.mem_append_right _ hb)
end
/-- A reference's arena without cells and accesses. -/
theorem refT_nil {T : List Nat} {w0 w : World} {l : List Thing} (h : Led T w0 w l) (most : Nat) (hm : most ≤ 65536) : Led T w0 w (l ++ [refT (.slice none 0 0) (.slice none 0 0) ⟨[], most, []⟩]) :=
  h.new (t' := refT (.slice none 0 0) (.slice none 0 0) ⟨[], most, []⟩) (f' := []) ⟨⟨World.ownsRow_nil _ _ _ _, World.ownsRow_nil _ _ _ _, by simp, hm⟩, by simp [sb, Value.ownBlock], by simp⟩ ⟨Touch.refl _ _, by simp⟩

/-- A call of law 01: what, where, two numbers. -/
structure Call01 where
  what : Int
  at_ : Int
  x : Nat
  y : Nat
def Call01.cells (a : Call01) : List Value := [.int .i64 a.what, .int .i64 a.at_, .int .u64 (a.x : Int), .int .u64 (a.y : Int)]
def Call01.Ok (a : Call01) : Prop := (-9223372036854775808 ≤ a.what ∧ a.what ≤ 9223372036854775807) ∧ (-9223372036854775808 ≤ a.at_ ∧ a.at_ ≤ 9223372036854775807) ∧ Wd a.x ∧ Wd a.y
/-- The arena behind a call. -/
def actS (s : Ar) (c : Call01) : Ar :=
  if c.what = 0 then (s.allocA c.at_).1 else if c.what = 1 then (s.load c.at_).1 else if c.what = 2 then (s.store c.at_ c.x).1 else if c.what = 3 ∨ c.what = 4 then (s.swap c.at_ c.x c.y).1 else if c.what = 5 then (s.add c.at_ c.x).1 else s
/-- What act tells, and what it leaves. -/
def Acted (T : List Nat) (w : World) (s : Ar) (c : Call01) (e : Ending) (w' : World) : Prop :=
  ∃ g' vc' vl' rest, e = .returned (.tuple #[.pointer (some ⟨g', 0, none⟩), refV vc' s.most vl', .bool true]) ∧ Led T w w' (arena g' (actS s c) :: refT vc' vl' (actS s c) :: rest)
end Go.Proofs.Ytihmbgdkllmkaaa

/-
  The reference's Load, Store, Swap (betrothalref01), and those of layer 12 (betrothalref12), in the ledger.
-/
namespace Go.Proofs.Ytihmbgdkllmkaaa
open Go.RowKit Go.Shelf
set_option maxRecDepth 100000
set_option linter.unusedVariables false
set_option linter.unusedSimpArgs false

/-- A call of the reference's: it tells E, and the reference's arena is s' then. -/
def RefGo (T : List Nat) (w : World) (s' : Ar) (E : Value → Value → Value) (e : Ending) (w' : World) : Prop := ∃ vc' vl' rest, e = .returned (E vc' vl') ∧ Led T w w' (refT vc' vl' s' :: rest)
theorem Led.refGo {T0 : List Nat} {w0 w : World} {l : List Thing} {vc vl : Value} {s s' : Ar} {E : Value → Value → Value} {f : Nat} {args : Array Value} (h : Led T0 w0 w l) (i : Nat) (hi : l[i]? = some (refT vc vl s))
    (hc : ∀ T, Led T w w [refT vc vl s] → Calls Try.prog f args w (RefGo T w s' E)) : Calls Try.prog f args w fun e w' => ∃ vc' vl', e = .returned (E vc' vl') ∧ Led T0 w0 w' (l.set i (refT vc' vl' s')) := by
  obtain ⟨T', h1, h2⟩ := h.frame1 i hi
  refine (hc T' h1).mono ?_
  rintro e w' ⟨vc', vl', rest, rfl, h3⟩
  exact ⟨vc', vl', rfl, h2 _ _ _ h3⟩

theorem post_name {P : Program} {fn : Func} {R : Ending → World → Prop} {ex : Exit} {a : Act} {W : World} (h : ∀ w2, W = w2 → bodyPost P fn R ex a w2) : bodyPost P fn R ex a W := h W rfl
set_option maxHeartbeats 4000000 in
theorem rLoad (T : List Nat) (w : World) (vc vl : Value) (s : Ar) (at_ : Int) (hL : s.L.length ≤ 1048576) (h : Led T w w [refT vc vl s]) :
    Calls Try.prog 113 #[refV vc s.most vl, .int .i64 at_] w (RefGo T w (s.load at_).1 (fun vc' vl' => .tuple #[refV vc' s.most vl', .int .u64 ((s.load at_).2.1.old : Int), .int .i64 ((s.load at_).2.2 : Int)])) := by
  obtain ⟨ca, cp, rfl, _, _⟩ := own_val (h.refAt 0 rfl).cel
  obtain ⟨la, lp, rfl, _, _⟩ := own_val (h.refAt 0 rfl).log
  have HL0 := Lib.hid h
  clear h
  unfold refV
  go_enter Try.func113, Try.ntmps113
  go_wp2_with fail
  refine (((HL0.out.alloc _ _).alloc _ _).refDid 0 rfl (fun hr => refLoad _ _ _ s at_ hr hL 0 0)).mono ?_
  rintro e w1 ⟨vc', vl', rfl, hL⟩
  simp only [List.nil_append, List.cons_append, List.set_cons_succ, List.set_cons_zero, World.size_alloc] at hL
  obtain ⟨ca1, cp1, rfl, _, _⟩ := own_val (hL.refAt 0 rfl).cel
  obtain ⟨la1, lp1, rfl, _, _⟩ := own_val (hL.refAt 0 rfl).log
  have HL1 := Lib.hid hL
  clear hL
  unfold refV
  obtain ⟨b4, hb4⟩ : ∃ b, w.heap.size + 1 = b := ⟨_, rfl⟩
  rw [hb4] at HL1 ⊢
  obtain ⟨b2, hb2⟩ : ∃ b, w.heap.size = b := ⟨_, rfl⟩
  rw [hb2] at HL1 ⊢
  clear hb4 hb2
  obtain ⟨p0, p1, p2, f0, f1, f2, z4, _, _⟩ := HL1.out.c3 2 rfl
  go_wp2_with fail
  refine wp_name ?_
  intro w2 hw2
  have HL2 := Lib.hid (HL1.out.al2 hw2)
  simp only [List.nil_append, List.cons_append] at HL2
  clear hw2
  obtain ⟨b8, hb8⟩ : ∃ b, w1.heap.size + 1 = b := ⟨_, rfl⟩
  rw [hb8] at HL2 ⊢
  obtain ⟨b7, hb7⟩ : ∃ b, w1.heap.size = b := ⟨_, rfl⟩
  rw [hb7] at HL2 ⊢
  clear hb8 hb7 HL1 p0 p1 p2 f0 f1 f2 z4
  obtain ⟨p0, p1, p2, f0, f1, f2, z4, _, _⟩ := HL2.out.c3 2 rfl
  obtain ⟨r0, r1, r2, _, _, _, zr, _, _⟩ := HL2.out.c3 3 rfl
  obtain ⟨_, _, q2, _, q4, _, _, _, _, _, zq, _, _⟩ := HL2.out.c5 4 rfl
  have n1 := HL2.out.ne 2 3 rfl rfl (by decide)
  have n2 := HL2.out.ne 2 4 rfl rfl (by decide)
  have n3 := Ne.symm n1
  have n4 := Ne.symm n2
  go_region_held3 (fun w' => w'.cell? ⟨b7, 0, none⟩ = some (.slice ca1 (s.load at_).1.C.length cp1) ∧ w'.cell? ⟨b7, 1, none⟩ = some (.int .i64 (s.most : Int)) ∧ w'.cell? ⟨b7, 2, none⟩ = some (.slice la1 (s.load at_).1.L.length lp1) ∧ w'.cell? ⟨b8, 2, none⟩ = some (.int .u64 ((s.load at_).2.1.old : Int))) (go_keep) (first | fail)
  go_wp2
  have HL3 := Lib.hid ((((HL2.out.set 2 rfl 0 (.slice ca1 (s.load at_).1.C.length cp1)).set 2 rfl 1 (.int .i64 (s.most : Int))).set 2 rfl 2 (.slice la1 (s.load at_).1.L.length lp1)).drew)
  simp only [List.set_cons_succ, List.set_cons_zero, List.setIfInBounds_toArray] at HL3
  obtain ⟨y0, y1, y2, _, _, _, _, _, _⟩ := HL3.out.c3 2 rfl
  refine bodyPost_ret (v := .tuple #[.agg #[.slice ca1 (s.load at_).1.C.length cp1, .int .i64 (s.most : Int), .slice la1 (s.load at_).1.L.length lp1], .int .u64 ((s.load at_).2.1.old : Int), .int .i64 ((s.load at_).2.2 : Int)]) (by simp [results, Try.results113, go_sem, y0, y1, y2]) rfl ?_
  exact ⟨_, _, _, rfl, HL3.out⟩
set_option maxHeartbeats 4000000 in
theorem rSwap (T : List Nat) (w : World) (vc vl : Value) (s : Ar) (at_ : Int) (x y : Nat) (hL : s.L.length ≤ 1048576) (h : Led T w w [refT vc vl s]) :
    Calls Try.prog 114 #[refV vc s.most vl, .int .i64 at_, .int .u64 (x : Int), .int .u64 (y : Int)] w (RefGo T w (s.swap at_ x y).1 (fun vc' vl' => .tuple #[refV vc' s.most vl', .int .u64 ((s.swap at_ x y).2.1.old : Int), .bool (s.swap at_ x y).2.1.did, .int .i64 ((s.swap at_ x y).2.2 : Int)])) := by
  obtain ⟨ca, cp, rfl, _, _⟩ := own_val (h.refAt 0 rfl).cel
  obtain ⟨la, lp, rfl, _, _⟩ := own_val (h.refAt 0 rfl).log
  have HL0 := Lib.hid h
  clear h
  unfold refV
  go_enter Try.func114, Try.ntmps114
  go_wp2_with fail
  refine (((HL0.out.alloc _ _).alloc _ _).refDid 0 rfl (fun hr => refSwap _ _ _ s at_ hr hL x y)).mono ?_
  rintro e w1 ⟨vc', vl', rfl, hL⟩
  simp only [List.nil_append, List.cons_append, List.set_cons_succ, List.set_cons_zero, World.size_alloc] at hL
  obtain ⟨ca1, cp1, rfl, _, _⟩ := own_val (hL.refAt 0 rfl).cel
  obtain ⟨la1, lp1, rfl, _, _⟩ := own_val (hL.refAt 0 rfl).log
  have HL1 := Lib.hid hL
  clear hL
  unfold refV
  obtain ⟨b4, hb4⟩ : ∃ b, w.heap.size + 1 = b := ⟨_, rfl⟩
  rw [hb4] at HL1 ⊢
  obtain ⟨b2, hb2⟩ : ∃ b, w.heap.size = b := ⟨_, rfl⟩
  rw [hb2] at HL1 ⊢
  clear hb4 hb2
  obtain ⟨p0, p1, p2, f0, f1, f2, z4, _, _⟩ := HL1.out.c3 2 rfl
  go_wp2_with fail
  refine wp_name ?_
  intro w2 hw2
  have HL2 := Lib.hid (HL1.out.al2 hw2)
  simp only [List.nil_append, List.cons_append] at HL2
  clear hw2
  obtain ⟨b8, hb8⟩ : ∃ b, w1.heap.size + 1 = b := ⟨_, rfl⟩
  rw [hb8] at HL2 ⊢
  obtain ⟨b7, hb7⟩ : ∃ b, w1.heap.size = b := ⟨_, rfl⟩
  rw [hb7] at HL2 ⊢
  clear hb8 hb7 HL1 p0 p1 p2 f0 f1 f2 z4
  obtain ⟨p0, p1, p2, f0, f1, f2, z4, _, _⟩ := HL2.out.c3 2 rfl
  obtain ⟨r0, r1, r2, _, _, _, zr, _, _⟩ := HL2.out.c3 3 rfl
  obtain ⟨_, _, q2, _, q4, _, _, _, _, _, zq, _, _⟩ := HL2.out.c5 4 rfl
  have n1 := HL2.out.ne 2 3 rfl rfl (by decide)
  have n2 := HL2.out.ne 2 4 rfl rfl (by decide)
  have n3 := Ne.symm n1
  have n4 := Ne.symm n2
  go_region_held3 (fun w' => w'.cell? ⟨b7, 0, none⟩ = some (.slice ca1 (s.swap at_ x y).1.C.length cp1) ∧ w'.cell? ⟨b7, 1, none⟩ = some (.int .i64 (s.most : Int)) ∧ w'.cell? ⟨b7, 2, none⟩ = some (.slice la1 (s.swap at_ x y).1.L.length lp1) ∧ w'.cell? ⟨b8, 2, none⟩ = some (.int .u64 ((s.swap at_ x y).2.1.old : Int)) ∧ w'.cell? ⟨b8, 4, none⟩ = some (.bool (s.swap at_ x y).2.1.did)) (go_keep) (first | fail)
  go_wp2
  have HL3 := Lib.hid ((((HL2.out.set 2 rfl 0 (.slice ca1 (s.swap at_ x y).1.C.length cp1)).set 2 rfl 1 (.int .i64 (s.most : Int))).set 2 rfl 2 (.slice la1 (s.swap at_ x y).1.L.length lp1)).drew)
  simp only [List.set_cons_succ, List.set_cons_zero, List.setIfInBounds_toArray] at HL3
  obtain ⟨y0, y1, y2, _, _, _, _, _, _⟩ := HL3.out.c3 2 rfl
  refine bodyPost_ret (v := .tuple #[.agg #[.slice ca1 (s.swap at_ x y).1.C.length cp1, .int .i64 (s.most : Int), .slice la1 (s.swap at_ x y).1.L.length lp1], .int .u64 ((s.swap at_ x y).2.1.old : Int), .bool (s.swap at_ x y).2.1.did, .int .i64 ((s.swap at_ x y).2.2 : Int)]) (by simp [results, Try.results114, go_sem, y0, y1, y2]) rfl ?_
  exact ⟨_, _, _, rfl, HL3.out⟩
theorem doBy_old0 (s : Ar) (op : Nat) (at_ : Int) (chg : Nat → Nat × Bool) (h : (s.doBy op at_ chg).2.2 ≠ 0) : (s.doBy op at_ chg).2.1.old = 0 := by
  rcases doBy_err s op at_ chg with h1 | ⟨_, h1⟩
  · exact absurd h1 h
  · rw [h1]; rfl
theorem doBy_wd' (s : Ar) (op : Nat) (at_ : Int) (chg : Nat → Nat × Bool) (h : ∀ n ∈ s.C, Wd n) : Wd (s.doBy op at_ chg).2.1.old := by
  have h0 : Wd 0 := by unfold Wd; omega
  simp only [Ar.doBy]
  split
  · simp only [List.getD]
    cases hc : s.C[at_.toNat]? with
    | none => exact h0
    | some x => exact h x (List.mem_of_getElem? hc)
  · exact h0

end Go.Proofs.Ytihmbgdkllmkaaa

/-
  The reference of layer 3 (betrothalref03/ref.go), in the ledger: New, Try, Free, Held.
-/
namespace Go.Proofs.Ytihmbgdkllmkaaa
open Go.RowKit Go.Shelf
set_option maxRecDepth 100000
set_option linter.unusedVariables false
set_option linter.unusedSimpArgs false

set_option maxHeartbeats 4000000 in
theorem rTry (T : List Nat) (w : World) (vc vl : Value) (s : Ar) (at_ : Int) (hL : s.L.length ≤ 1048576) (h : Led T w w [refT vc vl s]) :
    Calls Try.prog 97 #[refV vc s.most vl, .int .i64 at_] w (RefGo T w (s.swap at_ 0 1).1 (fun vc' vl' => .tuple #[refV vc' s.most vl', .bool (s.swap at_ 0 1).2.1.did, .int .i64 ((s.swap at_ 0 1).2.2 : Int)])) := by
  obtain ⟨ca, cp, rfl, _, _⟩ := own_val (h.refAt 0 rfl).cel
  obtain ⟨la, lp, rfl, _, _⟩ := own_val (h.refAt 0 rfl).log
  have HL0 := Lib.hid h
  clear h
  unfold refV
  go_enter Try.func97, Try.ntmps97
  go_wp2_with fail
  refine (((HL0.out.alloc _ _).alloc _ _).refGo 0 rfl (fun T h => rSwap T _ _ _ s at_ 0 1 hL h)).mono ?_
  rintro e w1 ⟨vc', vl', rfl, hL⟩
  simp only [List.nil_append, List.cons_append, List.set_cons_succ, List.set_cons_zero, World.size_alloc] at hL
  obtain ⟨ca1, cp1, rfl, _, _⟩ := own_val (hL.refAt 0 rfl).cel
  obtain ⟨la1, lp1, rfl, _, _⟩ := own_val (hL.refAt 0 rfl).log
  have HL1 := Lib.hid hL
  clear hL
  unfold refV
  obtain ⟨b4, hb4⟩ : ∃ b, w.heap.size + 1 = b := ⟨_, rfl⟩
  rw [hb4] at HL1 ⊢
  obtain ⟨b2, hb2⟩ : ∃ b, w.heap.size = b := ⟨_, rfl⟩
  rw [hb2] at HL1 ⊢
  clear hb4 hb2
  obtain ⟨p0, p1, p2, f0, f1, f2, z4, z41, z42⟩ := HL1.out.c3 2 rfl
  go_wp2
  refine post_name ?_
  intro w2 hw2
  have HL3 := Lib.hid ((((HL1.out.set 2 rfl 0 (.slice ca1 (s.swap at_ 0 1).1.C.length cp1)).set 2 rfl 1 (.int .i64 (s.most : Int))).set 2 rfl 2 (.slice la1 (s.swap at_ 0 1).1.L.length lp1)).al1 hw2)
  simp only [List.set_cons_succ, List.set_cons_zero, List.setIfInBounds_toArray, List.cons_append, List.nil_append] at HL3
  clear hw2
  obtain ⟨y0, y1, y2, _, _, _, _, _, _⟩ := HL3.out.c3 2 rfl
  refine bodyPost_ret (v := .tuple #[.agg #[.slice ca1 (s.swap at_ 0 1).1.C.length cp1, .int .i64 (s.most : Int), .slice la1 (s.swap at_ 0 1).1.L.length lp1], .bool (s.swap at_ 0 1).2.1.did, .int .i64 ((s.swap at_ 0 1).2.2 : Int)]) (by simp [results, Try.results97, go_sem, y0, y1, y2, Ar.swap, Ar.load]) rfl ?_
  exact ⟨_, _, _, rfl, HL3.out⟩
set_option maxHeartbeats 4000000 in
theorem rFree (T : List Nat) (w : World) (vc vl : Value) (s : Ar) (at_ : Int) (hL : s.L.length ≤ 1048576) (h : Led T w w [refT vc vl s]) :
    Calls Try.prog 98 #[refV vc s.most vl, .int .i64 at_] w (RefGo T w (s.swap at_ 1 0).1 (fun vc' vl' => .tuple #[refV vc' s.most vl', .int .i64 (s.freeE at_ : Int)])) := by
  have HE : Hid ((s.freeE at_ : Int) = (if (s.swap at_ 1 0).2.2 = 0 then (if (s.swap at_ 1 0).2.1.did then 0 else 30) else (s.swap at_ 1 0).2.2 : Nat)) := rfl
  rcases doBy_err s 3 at_ (chgSwap 1 0) with he | ⟨he, hz⟩
  · change (s.swap at_ 1 0).2.2 = 0 at he
    rw [he, if_pos rfl] at HE
    cases hd : (s.swap at_ 1 0).2.1.did with
    | true =>
      rw [hd, if_pos rfl] at HE
      have HSW := Lib.hid (rSwap (x := 1) (y := 0) (s := s) (at_ := at_) (hL := hL))
      rw [hd, he] at HSW
      obtain ⟨ca, cp, rfl, _, _⟩ := own_val (h.refAt 0 rfl).cel
      obtain ⟨la, lp, rfl, _, _⟩ := own_val (h.refAt 0 rfl).log
      have HL0 := Lib.hid h
      clear h
      unfold refV
      go_enter Try.func98, Try.ntmps98
      go_wp2_with fail
      refine (((HL0.out.alloc _ _).alloc _ _).refGo 0 rfl (fun T h => HSW.out T _ _ _ h)).mono ?_
      rintro e w1 ⟨vc', vl', rfl, hL⟩
      simp only [List.nil_append, List.cons_append, List.set_cons_succ, List.set_cons_zero, World.size_alloc] at hL
      obtain ⟨ca1, cp1, rfl, _, _⟩ := own_val (hL.refAt 0 rfl).cel
      obtain ⟨la1, lp1, rfl, _, _⟩ := own_val (hL.refAt 0 rfl).log
      have HL1 := Lib.hid hL
      clear hL
      unfold refV
      obtain ⟨b4, hb4⟩ : ∃ b, w.heap.size + 1 = b := ⟨_, rfl⟩
      rw [hb4] at HL1 ⊢
      obtain ⟨b2, hb2⟩ : ∃ b, w.heap.size = b := ⟨_, rfl⟩
      rw [hb2] at HL1 ⊢
      clear hb4 hb2
      obtain ⟨p0, p1, p2, f0, f1, f2, z4, z41, z42⟩ := HL1.out.c3 2 rfl
      go_wp2
      refine post_name ?_
      intro w2 hw2
      have HL3 := Lib.hid ((((HL1.out.set 2 rfl 0 (.slice ca1 (s.swap at_ 1 0).1.C.length cp1)).set 2 rfl 1 (.int .i64 (s.most : Int))).set 2 rfl 2 (.slice la1 (s.swap at_ 1 0).1.L.length lp1)).al1 hw2)
      simp only [List.set_cons_succ, List.set_cons_zero, List.setIfInBounds_toArray, List.cons_append, List.nil_append] at HL3
      clear hw2
      obtain ⟨y0, y1, y2, _, _, _, _, _, _⟩ := HL3.out.c3 2 rfl
      refine bodyPost_ret (v := .tuple #[.agg #[.slice ca1 (s.swap at_ 1 0).1.C.length cp1, .int .i64 (s.most : Int), .slice la1 (s.swap at_ 1 0).1.L.length lp1], .int .i64 0]) (by simp [results, Try.results98, go_sem, y0, y1, y2, Ar.swap, Ar.load]) rfl ?_
      exact ⟨_, _, _, by rw [HE.out]; rfl, HL3.out⟩
    | false =>
      rw [hd, if_neg (by simp)] at HE
      have HSW := Lib.hid (rSwap (x := 1) (y := 0) (s := s) (at_ := at_) (hL := hL))
      rw [hd, he] at HSW
      obtain ⟨ca, cp, rfl, _, _⟩ := own_val (h.refAt 0 rfl).cel
      obtain ⟨la, lp, rfl, _, _⟩ := own_val (h.refAt 0 rfl).log
      have HL0 := Lib.hid h
      clear h
      unfold refV
      go_enter Try.func98, Try.ntmps98
      go_wp2_with fail
      refine (((HL0.out.alloc _ _).alloc _ _).refGo 0 rfl (fun T h => HSW.out T _ _ _ h)).mono ?_
      rintro e w1 ⟨vc', vl', rfl, hL⟩
      simp only [List.nil_append, List.cons_append, List.set_cons_succ, List.set_cons_zero, World.size_alloc] at hL
      obtain ⟨ca1, cp1, rfl, _, _⟩ := own_val (hL.refAt 0 rfl).cel
      obtain ⟨la1, lp1, rfl, _, _⟩ := own_val (hL.refAt 0 rfl).log
      have HL1 := Lib.hid hL
      clear hL
      unfold refV
      obtain ⟨b4, hb4⟩ : ∃ b, w.heap.size + 1 = b := ⟨_, rfl⟩
      rw [hb4] at HL1 ⊢
      obtain ⟨b2, hb2⟩ : ∃ b, w.heap.size = b := ⟨_, rfl⟩
      rw [hb2] at HL1 ⊢
      clear hb4 hb2
      obtain ⟨p0, p1, p2, f0, f1, f2, z4, z41, z42⟩ := HL1.out.c3 2 rfl
      go_wp2
      refine post_name ?_
      intro w2 hw2
      have HL3 := Lib.hid ((((HL1.out.set 2 rfl 0 (.slice ca1 (s.swap at_ 1 0).1.C.length cp1)).set 2 rfl 1 (.int .i64 (s.most : Int))).set 2 rfl 2 (.slice la1 (s.swap at_ 1 0).1.L.length lp1)).al1 hw2)
      simp only [List.set_cons_succ, List.set_cons_zero, List.setIfInBounds_toArray, List.cons_append, List.nil_append] at HL3
      clear hw2
      obtain ⟨y0, y1, y2, _, _, _, _, _, _⟩ := HL3.out.c3 2 rfl
      refine bodyPost_ret (v := .tuple #[.agg #[.slice ca1 (s.swap at_ 1 0).1.C.length cp1, .int .i64 (s.most : Int), .slice la1 (s.swap at_ 1 0).1.L.length lp1], .int .i64 30]) (by simp [results, Try.results98, go_sem, y0, y1, y2, Ar.swap, Ar.load]) rfl ?_
      exact ⟨_, _, _, by rw [HE.out]; rfl, HL3.out⟩
  · change (s.swap at_ 1 0).2.2 = 4 at he
    rw [he, if_neg (by simp)] at HE
    have HSW := Lib.hid (rSwap (x := 1) (y := 0) (s := s) (at_ := at_) (hL := hL))
    rw [he] at HSW
    obtain ⟨ca, cp, rfl, _, _⟩ := own_val (h.refAt 0 rfl).cel
    obtain ⟨la, lp, rfl, _, _⟩ := own_val (h.refAt 0 rfl).log
    have HL0 := Lib.hid h
    clear h
    unfold refV
    go_enter Try.func98, Try.ntmps98
    go_wp2_with fail
    refine (((HL0.out.alloc _ _).alloc _ _).refGo 0 rfl (fun T h => HSW.out T _ _ _ h)).mono ?_
    rintro e w1 ⟨vc', vl', rfl, hL⟩
    simp only [List.nil_append, List.cons_append, List.set_cons_succ, List.set_cons_zero, World.size_alloc] at hL
    obtain ⟨ca1, cp1, rfl, _, _⟩ := own_val (hL.refAt 0 rfl).cel
    obtain ⟨la1, lp1, rfl, _, _⟩ := own_val (hL.refAt 0 rfl).log
    have HL1 := Lib.hid hL
    clear hL
    unfold refV
    obtain ⟨b4, hb4⟩ : ∃ b, w.heap.size + 1 = b := ⟨_, rfl⟩
    rw [hb4] at HL1 ⊢
    obtain ⟨b2, hb2⟩ : ∃ b, w.heap.size = b := ⟨_, rfl⟩
    rw [hb2] at HL1 ⊢
    clear hb4 hb2
    obtain ⟨p0, p1, p2, f0, f1, f2, z4, z41, z42⟩ := HL1.out.c3 2 rfl
    go_wp2
    refine post_name ?_
    intro w2 hw2
    have HL3 := Lib.hid ((((HL1.out.set 2 rfl 0 (.slice ca1 (s.swap at_ 1 0).1.C.length cp1)).set 2 rfl 1 (.int .i64 (s.most : Int))).set 2 rfl 2 (.slice la1 (s.swap at_ 1 0).1.L.length lp1)).al1 hw2)
    simp only [List.set_cons_succ, List.set_cons_zero, List.setIfInBounds_toArray, List.cons_append, List.nil_append] at HL3
    clear hw2
    obtain ⟨y0, y1, y2, _, _, _, _, _, _⟩ := HL3.out.c3 2 rfl
    refine bodyPost_ret (v := .tuple #[.agg #[.slice ca1 (s.swap at_ 1 0).1.C.length cp1, .int .i64 (s.most : Int), .slice la1 (s.swap at_ 1 0).1.L.length lp1], .int .i64 4]) (by simp [results, Try.results98, go_sem, y0, y1, y2, Ar.swap, Ar.load]) rfl ?_
    exact ⟨_, _, _, by rw [HE.out]; rfl, HL3.out⟩
end Go.Proofs.Ytihmbgdkllmkaaa

/-
  The reference of layer 15 (betrothalref15/ref.go): New, Fired, Fire, of a condition whose lock is the first cell.
-/
namespace Go.Proofs.Ytihmbgdkllmkaaa
open Go.RowKit Go.Shelf
set_option maxRecDepth 100000
set_option linter.unusedVariables false
set_option linter.unusedSimpArgs false

set_option maxHeartbeats 4000000 in
theorem rFired15 (T : List Nat) (w : World) (vc vl : Value) (s : Ar) (a : Option Addr) (n c : Nat) (hL : s.L.length ≤ 1048576) (h : Led T w w [refT vc vl s]) :
    Calls Try.prog 95 #[.agg #[.int .i64 0, .slice a n c], refV vc s.most vl] w (RefGo T w (s.load 1).1 (fun vc' vl' => .tuple #[refV vc' s.most vl', .bool ((((s.load 1).2.1.old : Nat) : Int) != 0), .int .i64 ((s.load 1).2.2 : Int)])) := by
  obtain ⟨ca, cp, rfl, _, _⟩ := own_val (h.refAt 0 rfl).cel
  obtain ⟨la, lp, rfl, _, _⟩ := own_val (h.refAt 0 rfl).log
  have HL0 := Lib.hid h
  clear h
  unfold refV
  go_enter Try.func95, Try.ntmps95
  go_wp2_with fail
  refine ((((HL0.out.alloc _ _).alloc _ _).alloc _ _).refGo 0 rfl (fun T h => rLoad T _ _ _ s 1 hL h)).mono ?_
  rintro e w1 ⟨vc', vl', rfl, hL⟩
  simp only [List.nil_append, List.cons_append, List.set_cons_succ, List.set_cons_zero, World.size_alloc] at hL
  obtain ⟨ca1, cp1, rfl, _, _⟩ := own_val (hL.refAt 0 rfl).cel
  obtain ⟨la1, lp1, rfl, _, _⟩ := own_val (hL.refAt 0 rfl).log
  have HL1 := Lib.hid hL
  clear hL
  unfold refV
  obtain ⟨b4, hb4⟩ : ∃ b, w.heap.size + 1 + 1 = b := ⟨_, rfl⟩
  rw [hb4] at HL1 ⊢
  clear hb4
  obtain ⟨p0, p1, p2, f0, f1, f2, z4, z41, z42⟩ := HL1.out.c3 3 rfl
  go_wp2
  refine post_name ?_
  intro w2 hw2
  have HL3 := Lib.hid ((((HL1.out.set 3 rfl 0 (.slice ca1 (s.load 1).1.C.length cp1)).set 3 rfl 1 (.int .i64 (s.most : Int))).set 3 rfl 2 (.slice la1 (s.load 1).1.L.length lp1)).al1 hw2)
  simp only [List.set_cons_succ, List.set_cons_zero, List.setIfInBounds_toArray, List.cons_append, List.nil_append] at HL3
  clear hw2
  obtain ⟨y0, y1, y2, _, _, _, _, _, _⟩ := HL3.out.c3 3 rfl
  refine bodyPost_ret (v := .tuple #[.agg #[.slice ca1 (s.load 1).1.C.length cp1, .int .i64 (s.most : Int), .slice la1 (s.load 1).1.L.length lp1], .bool ((((s.load 1).2.1.old : Nat) : Int) != 0), .int .i64 ((s.load 1).2.2 : Int)]) (by simp [results, Try.results95, go_sem, y0, y1, y2]) rfl ?_
  exact ⟨_, _, _, rfl, HL3.out⟩
set_option maxHeartbeats 4000000 in
theorem rFire15_did (T : List Nat) (w : World) (vc vl : Value) (s : Ar) (a : Option Addr) (n c : Nat) (hL : s.L.length ≤ 1048576) (h : Led T w w [refT vc vl s]) (he : (s.swap 1 0 1).2.2 = 0) (hd : (s.swap 1 0 1).2.1.did = true) :
    Calls Try.prog 96 #[.agg #[.int .i64 0, .slice a n c], refV vc s.most vl] w (RefGo T w (s.swap 1 0 1).1 (fun vc' vl' => .tuple #[refV vc' s.most vl', .int .i64 0])) := by
  obtain ⟨ca, cp, rfl, _, _⟩ := own_val (h.refAt 0 rfl).cel
  obtain ⟨la, lp, rfl, _, _⟩ := own_val (h.refAt 0 rfl).log
  have HL0 := Lib.hid h
  clear h
  unfold refV
  go_enter Try.func96, Try.ntmps96
  go_wp2_with fail
  refine ((((HL0.out.alloc _ _).alloc _ _).alloc _ _).refGo 0 rfl (fun T h => rSwap T _ _ _ s 1 0 1 hL h)).mono ?_
  rintro e w1 ⟨vc', vl', rfl, hL⟩
  simp only [List.nil_append, List.cons_append, List.set_cons_succ, List.set_cons_zero, World.size_alloc] at hL
  obtain ⟨ca1, cp1, rfl, _, _⟩ := own_val (hL.refAt 0 rfl).cel
  obtain ⟨la1, lp1, rfl, _, _⟩ := own_val (hL.refAt 0 rfl).log
  have HL1 := Lib.hid hL
  clear hL
  unfold refV
  obtain ⟨b4, hb4⟩ : ∃ b, w.heap.size + 1 + 1 = b := ⟨_, rfl⟩
  rw [hb4] at HL1 ⊢
  clear hb4
  obtain ⟨p0, p1, p2, f0, f1, f2, z4, z41, z42⟩ := HL1.out.c3 3 rfl
  have HD := Lib.hid hd
  have hd0 := HD.out
  clear hd
  go_wp2
  refine post_name ?_
  intro w2 hw2
  have HL3 := Lib.hid ((((HL1.out.set 3 rfl 0 (.slice ca1 (s.swap 1 0 1).1.C.length cp1)).set 3 rfl 1 (.int .i64 (s.most : Int))).set 3 rfl 2 (.slice la1 (s.swap 1 0 1).1.L.length lp1)).al1 hw2)
  simp only [List.set_cons_succ, List.set_cons_zero, List.setIfInBounds_toArray, List.cons_append, List.nil_append] at HL3
  clear hw2
  obtain ⟨y0, y1, y2, _, _, _, _, _, _⟩ := HL3.out.c3 3 rfl
  refine bodyPost_ret (v := .tuple #[.agg #[.slice ca1 (s.swap 1 0 1).1.C.length cp1, .int .i64 (s.most : Int), .slice la1 (s.swap 1 0 1).1.L.length lp1], .int .i64 0]) (by simp [results, Try.results96, go_sem, y0, y1, y2]) rfl ?_
  exact ⟨_, _, _, rfl, HL3.out⟩
set_option maxHeartbeats 4000000 in
theorem rFire15_not (T : List Nat) (w : World) (vc vl : Value) (s : Ar) (a : Option Addr) (n c : Nat) (hL : s.L.length ≤ 1048576) (h : Led T w w [refT vc vl s]) (he : (s.swap 1 0 1).2.2 = 0) (hd : (s.swap 1 0 1).2.1.did = false) :
    Calls Try.prog 96 #[.agg #[.int .i64 0, .slice a n c], refV vc s.most vl] w (RefGo T w (s.swap 1 0 1).1 (fun vc' vl' => .tuple #[refV vc' s.most vl', .int .i64 150])) := by
  obtain ⟨ca, cp, rfl, _, _⟩ := own_val (h.refAt 0 rfl).cel
  obtain ⟨la, lp, rfl, _, _⟩ := own_val (h.refAt 0 rfl).log
  have HL0 := Lib.hid h
  clear h
  unfold refV
  go_enter Try.func96, Try.ntmps96
  go_wp2_with fail
  refine ((((HL0.out.alloc _ _).alloc _ _).alloc _ _).refGo 0 rfl (fun T h => rSwap T _ _ _ s 1 0 1 hL h)).mono ?_
  rintro e w1 ⟨vc', vl', rfl, hL⟩
  simp only [List.nil_append, List.cons_append, List.set_cons_succ, List.set_cons_zero, World.size_alloc] at hL
  obtain ⟨ca1, cp1, rfl, _, _⟩ := own_val (hL.refAt 0 rfl).cel
  obtain ⟨la1, lp1, rfl, _, _⟩ := own_val (hL.refAt 0 rfl).log
  have HL1 := Lib.hid hL
  clear hL
  unfold refV
  obtain ⟨b4, hb4⟩ : ∃ b, w.heap.size + 1 + 1 = b := ⟨_, rfl⟩
  rw [hb4] at HL1 ⊢
  clear hb4
  obtain ⟨p0, p1, p2, f0, f1, f2, z4, z41, z42⟩ := HL1.out.c3 3 rfl
  have HD := Lib.hid hd
  have hd0 := HD.out
  clear hd
  go_wp2
  refine post_name ?_
  intro w2 hw2
  have HL3 := Lib.hid ((((HL1.out.set 3 rfl 0 (.slice ca1 (s.swap 1 0 1).1.C.length cp1)).set 3 rfl 1 (.int .i64 (s.most : Int))).set 3 rfl 2 (.slice la1 (s.swap 1 0 1).1.L.length lp1)).al1 hw2)
  simp only [List.set_cons_succ, List.set_cons_zero, List.setIfInBounds_toArray, List.cons_append, List.nil_append] at HL3
  clear hw2
  obtain ⟨y0, y1, y2, _, _, _, _, _, _⟩ := HL3.out.c3 3 rfl
  refine bodyPost_ret (v := .tuple #[.agg #[.slice ca1 (s.swap 1 0 1).1.C.length cp1, .int .i64 (s.most : Int), .slice la1 (s.swap 1 0 1).1.L.length lp1], .int .i64 150]) (by simp [results, Try.results96, go_sem, y0, y1, y2]) rfl ?_
  exact ⟨_, _, _, rfl, HL3.out⟩
end Go.Proofs.Ytihmbgdkllmkaaa

/-
  The law's works() of layer 13 (betrothallaw13/law.go): it returns true, and nothing that was there has turned.
-/
namespace Go.Proofs.Ytihmbgdkllmkaaa
open Go.RowKit Go.Shelf
set_option maxRecDepth 100000
set_option linter.unusedVariables false
set_option linter.unusedSimpArgs false
attribute [local go_sem] Oper.semAt_some

theorem num13 (n : Int) (w : World) : Calls Try.prog 15 #[.int .i64 n] w fun e w' => e = .returned (.int .i64 n) ∧ w = w' := by
  go_enter Try.func15, Try.ntmps15
  go_wp2
  go_ret
  exact ⟨rfl, rfl⟩
/-- The entry of a synchronization and a thread. -/
def ofE (s t : Int) : ME := ⟨s, t, 0, 0, MT.zero⟩
theorem build_of (s t : Int) (w : World) : (Instr.build 27 #[(0, .int .i64 s), (1, .int .i64 t)]).run Try.prog w = .ok (ofE s t).val w := run_build w 27 _ _ (by kernel_rfl)
theorem of13 (s t : Int) (w : World) : Calls Try.prog 17 #[.int .i64 s, .int .i64 t] w fun e w' => e = .returned (.agg #[.int .i64 s, .int .i64 t, .int .i64 0, .int .i64 0, .int .i64 0, .int .i64 0, .slice none 0 0]) ∧ Touch [] w w' := by
  have HT := Lib.hid ((Touch.refl [] w).alloc (.cells #[.int .i64 s, .int .i64 t, .int .i64 0, .int .i64 0, .int .i64 0, .int .i64 0, .slice none 0 0] 27))
  go_enter Try.func17, Try.ntmps17
  go_wp2
  refine bodyPost_ret (v := .agg #[.int .i64 s, .int .i64 t, .int .i64 0, .int .i64 0, .int .i64 0, .int .i64 0, .slice none 0 0]) (by simp [results, Try.results17, go_sem]) rfl ⟨rfl, HT.out⟩
theorem PushR.all {n : Nat} {xs : List PE} {k : Nat} {err : Int} (h : PushR n xs k err) (hok : ∀ x ∈ xs, x.Ok) (hn : n + xs.length ≤ 4096) : k = xs.length ∧ err = 0 := by
  obtain ⟨_, h2, h3, h4 | ⟨hk, h4 | h4⟩⟩ := h
  · exact ⟨h4.2, h4.1⟩
  · exact absurd (hok _ (List.getElem_mem hk)) h4.2
  · omega
theorem PushR.bad {n : Nat} {x : PE} {xs : List PE} {k : Nat} {err : Int} (h : PushR n (x :: xs) k err) (hb : ¬ x.Ok) : k = 0 ∧ err = 2 := by
  obtain ⟨h1, h2, h3, h4⟩ := h
  have hk : k = 0 := by
    by_cases hk : k = 0
    · exact hk
    · exact absurd (h1 0 (by simp) (by omega)) hb
  subst hk
  rcases h4 with h4 | ⟨hk, h4 | h4⟩
  · simp at h4
  · exact ⟨rfl, h4.1⟩
  · exact absurd h4.2.1 hb
/-- The plain entry of a synchronization and a thread. -/
def pOf (s t : Int) : PE := ⟨s, t, 0, 0, .mk 0 0 []⟩
theorem plain_of (s t : Int) : (ofE s t).plain = pOf s t := rfl
theorem pOf_ok {s t : Int} (hs : 0 ≤ s) (ht : 0 ≤ t) : (pOf s t).Ok := ⟨hs, ht, Int.le_refl 0, Int.le_refl 0, .inl rfl⟩
theorem pOf_nodes {x : ME} {s t : Int} (h : x.plain = pOf s t) : x.v.nodes ≤ 256 := by
  have h1 : x.v.plain = .mk 0 0 [] := congrArg PE.v h
  have h2 := MT.plain_nodes x.v
  rw [h1] at h2
  simp [MT.PT.nodes, MT.PT.nodesAll] at h2
  omega
theorem three_of {ys : List ME} {a b c : PE} (h : ys.map ME.plain = [a, b, c]) : ∃ y1 y2 y3, ys = [y1, y2, y3] ∧ y1.plain = a ∧ y2.plain = b ∧ y3.plain = c := by
  match ys, h with
  | [y1, y2, y3], h => simp at h; exact ⟨y1, y2, y3, rfl, h⟩
theorem f13a : IdxR (fun e => e.sync = 2) [pOf 1 7, pOf 2 8, pOf 1 7] 0 1 := .inr ⟨1, by decide, rfl, by decide, rfl, fun i hi _ hlt => by (have : i = 0 := by omega); subst this; simp [pOf]⟩
theorem f13b : IdxR (fun e => e.sync = 9) [pOf 1 7, pOf 2 8, pOf 1 7] 0 (-1) := .inl ⟨rfl, fun j hj _ => by match j, hj with | 0, _ => simp [pOf] | 1, _ => simp [pOf] | 2, _ => simp [pOf]⟩
theorem f13c : NextR (fun e => e.thread ≠ 7) [pOf 1 7, pOf 2 8, pOf 1 7] 0 1 true := ⟨1, .inr ⟨1, by decide, rfl, by decide, by simp [pOf], fun i hi _ hlt => by (have : i = 0 := by omega); subst this; simp [pOf]⟩, rfl, by decide⟩
theorem f13d : NextR (fun e => e.thread ≠ 7) [pOf 1 7, pOf 2 8, pOf 1 7] 2 0 false := ⟨-1, .inl ⟨rfl, fun j hj h => by match j, hj with | 0, _ => exact absurd h (by decide) | 1, _ => exact absurd h (by decide) | 2, _ => simp [pOf]⟩, rfl, by decide⟩
theorem purge13 {y2 y3 : ME} (e2 : y2.plain = pOf 2 8) (e3 : y3.plain = pOf 1 7) : ([y2, y3].filter fun e => !decide (e.plain.sync ∈ [1, 9])) = [y2] := by simp [e2, e3, pOf]
theorem SameEntry_of (x : ME) (s t : Int) (w : World) (hx : x.v.In w) (hp : x.plain = pOf s t) : Calls Try.prog 21 #[.agg #[.int .i64 x.sync, .int .i64 x.thread, .int .i64 x.branch, .int .i64 x.flag, .int .i64 x.v.kind, .int .i64 x.v.num, .slice x.v.addr x.v.parts.length x.v.cap], .agg #[.int .i64 s, .int .i64 t, .int .i64 0, .int .i64 0, .int .i64 0, .int .i64 0, .slice none 0 0]] w fun e w' => e = .returned (.bool true) ∧ Touch [] w w' := by
  have hn := pOf_nodes hp
  refine (SameEntry_ref x (ofE s t) w hx (MT.in_zero w) (by omega) (show MT.zero.nodes ≤ 1048576 by decide)).mono ?_
  rintro e w' ⟨c, rfl, hc, ht⟩
  obtain rfl : c = true := hc.2 ⟨hn, show MT.zero.nodes ≤ 256 by decide, hp⟩
  exact ⟨rfl, ht⟩
set_option maxHeartbeats 4000000 in
theorem works13 (w : World) : Calls Try.prog 12 #[] w fun e w' => e = .returned (.bool true) ∧ Touch [] w w' := by
  go_enter Try.func12, Try.ntmps12
  go_wp2_with fail
  refine (New_q w (Led.nil' w)).mono ?_
  rintro e w1 ⟨g, rfl, hL⟩
  have HL1 := Lib.hid hL.vals0
  simp only [List.nil_append, List.cons_append] at HL1
  clear hL
  go_wp2_with fail
  refine (of13 _ _ _).mono ?_
  rintro e w2 ⟨rfl, ht⟩
  have HL2 := Lib.hid (HL1.out.touch ht)
  clear ht HL1
  go_wp2_with fail
  refine (of13 _ _ _).mono ?_
  rintro e w3 ⟨rfl, ht⟩
  have HL3 := Lib.hid (HL2.out.touch ht)
  clear ht HL2
  go_wp2_with fail
  refine (of13 _ _ _).mono ?_
  rintro e w4 ⟨rfl, ht⟩
  have HL4 := Lib.hid (HL3.out.touch ht)
  clear ht HL3
  go_wp2_with fail
  refine ((HL4.out.alloc _ _).qPush (xs := [ofE 1 7, ofE 2 8, ofE 1 7]) 0 1 rfl rfl (by decide) (fun W hW => ⟨ents_box rfl (hW 2 _ (by decide) rfl), fun x hx => by simp [ofE] at hx; rcases hx with rfl | rfl | rfl <;> exact MT.in_zero W⟩) (by decide) (by decide)).mono ?_
  rintro e w5 ⟨k, err, ys, rfl, hR, hp, hL5⟩
  obtain ⟨rfl, rfl⟩ := hR.all (by simp [plain_of]; exact ⟨pOf_ok (by decide) (by decide), pOf_ok (by decide) (by decide), pOf_ok (by decide) (by decide)⟩) (by decide)
  obtain ⟨ya, yb, yc, rfl, e1, e2, e3⟩ := three_of (a := pOf 1 7) (b := pOf 2 8) (c := pOf 1 7) hp
  have HL5 := Lib.hid hL5
  simp only [List.nil_append, List.cons_append, List.set_cons_succ, List.set_cons_zero, List.map_cons, List.map_nil] at HL5
  have HE := Lib.hid (And.intro e1 (And.intro e2 e3))
  clear hL5 hR hp e1 e2 e3 HL4
  go_wp2_with fail
  refine (Len_q w5 g _ (HL5.out.qAt 0 rfl)).mono ?_
  rintro e w' ⟨rfl, rfl⟩
  have hlen : ((([ya, yb, yc] : List ME).length : Nat) : Int) = 3 := rfl
  rw [hlen]
  clear hlen
  have HM : Hid (([ya, yb, yc] : List ME).map ME.plain = [pOf 1 7, pOf 2 8, pOf 1 7]) := by unfold Hid; simp [HE.out.1, HE.out.2.1, HE.out.2.2]
  go_wp2_with fail
  refine (Find_q w5 g _ 2 (HL5.out.qAt 0 rfl)).mono ?_
  rintro e w6 ⟨r, rfl, hr, ht⟩
  rw [HM.out] at hr
  obtain rfl := hr.unique f13a
  have HL6 := Lib.hid (HL5.out.touch ht)
  clear hr ht HL5
  go_wp2_with fail
  refine (Find_q w6 g _ 9 (HL6.out.qAt 0 rfl)).mono ?_
  rintro e w7 ⟨r, rfl, hr, ht⟩
  rw [HM.out] at hr
  obtain rfl := hr.unique f13b
  have HL7 := Lib.hid (HL6.out.touch ht)
  clear hr ht HL6
  go_wp2_with fail
  refine (Next_q w7 g _ 0 7 (HL7.out.qAt 0 rfl)).mono ?_
  rintro e w8 ⟨r, c, rfl, hr, ht⟩
  rw [HM.out] at hr
  obtain ⟨rfl, rfl⟩ := hr.unique f13c
  have HL8 := Lib.hid (HL7.out.touch ht)
  clear hr ht HL7
  go_wp2_with fail
  refine (Next_q w8 g _ 2 7 (HL8.out.qAt 0 rfl)).mono ?_
  rintro e w9 ⟨r, c, rfl, hr, ht⟩
  rw [HM.out] at hr
  obtain ⟨rfl, rfl⟩ := hr.unique f13d
  have HL9 := Lib.hid (HL8.out.touch ht)
  clear hr ht HL8
  go_wp2_with fail
  refine (HL9.out.qDrop 0 rfl 0 (by simp)).mono ?_
  rintro e w10 (⟨x, _, hx, rfl, hL⟩ | ⟨hn, _⟩)
  rotate_left
  · exact absurd ⟨by decide, by simp⟩ hn
  obtain rfl : ya = x := by simpa using hx
  have HL10 := Lib.hid hL
  simp only [List.set_cons_succ, List.set_cons_zero, Int.toNat_zero, List.eraseIdx_cons_zero] at HL10
  clear hL hx HL9 HM
  have HB : Hid (∃ b, w4.heap.size = b) := ⟨_, rfl⟩
  obtain ⟨b4, hb4⟩ := HB.out
  rw [hb4] at HL10 ⊢
  clear HB hb4
  simp only [ent_eq]
  go_wp2_with fail
  have HL11 := Lib.hid (HL10.out.alloc 27 #[.int .i64 ya.sync, .int .i64 ya.thread, .int .i64 ya.branch, .int .i64 ya.flag, .int .i64 ya.v.kind, .int .i64 ya.v.num, .slice ya.v.addr ya.v.parts.length ya.v.cap])
  simp only [List.nil_append, List.cons_append] at HL11
  refine (HL11.out.qAt1 0 1 rfl rfl (fun e he => by simp at he; rcases he with rfl | rfl; exact ⟨by simp, pOf_nodes HE.out.2.1⟩; exact ⟨by simp, pOf_nodes HE.out.2.2⟩) 0).mono ?_
  rintro e w11 ⟨xb, c, rfl, hR, hL⟩
  obtain ⟨rfl, hx2⟩ : c = true ∧ xb.plain = pOf 2 8 := by
    rcases hR with ⟨h1, _, h3⟩ | ⟨_, h2, _⟩
    · simp [HE.out.2.1] at h3
      exact ⟨h1, h3.symm⟩
    · exact absurd ⟨by decide, by simp⟩ h2
  have HX2 := Lib.hid hx2
  have HL12 := Lib.hid hL
  simp only [List.nil_append, List.cons_append, List.set_cons_succ, List.set_cons_zero] at HL12
  clear hL hR hx2 HL10 HL11
  have HB : Hid (∃ b, w10.heap.size = b) := ⟨_, rfl⟩
  obtain ⟨bx, hbx⟩ := HB.out
  rw [hbx] at HL12 ⊢
  clear HB hbx
  simp only [ent_eq]
  go_wp2_with fail
  have HL13 := Lib.hid (HL12.out.alloc 27 #[.int .i64 xb.sync, .int .i64 xb.thread, .int .i64 xb.branch, .int .i64 xb.flag, .int .i64 xb.v.kind, .int .i64 xb.v.num, .slice xb.v.addr xb.v.parts.length xb.v.cap])
  simp only [List.nil_append, List.cons_append] at HL13
  refine (of13 _ _ _).mono ?_
  rintro e w12 ⟨rfl, ht⟩
  have HL14 := Lib.hid (HL13.out.touch ht)
  clear ht HL13 HL12
  have HB : Hid (∃ b, w11.heap.size = b) := ⟨_, rfl⟩
  obtain ⟨by_, hby⟩ := HB.out
  rw [hby] at HL14 ⊢
  clear HB hby
  go_wp2_with fail
  refine ((HL14.out.alloc _ _).qPush (xs := [ofE (-1) 0]) 0 1 rfl rfl (by decide) (fun W hW => ⟨ents_box rfl (hW 5 _ (by decide) rfl), fun x hx => by simp [ofE] at hx; rcases hx with rfl; exact MT.in_zero W⟩) (by decide) (by simp)).mono ?_
  rintro e w13 ⟨k, err, ys, rfl, hR, hp, hL⟩
  obtain ⟨rfl, rfl⟩ := hR.bad (by rintro ⟨h, _⟩; exact absurd h (by decide))
  obtain rfl : ys = [] := by simpa using hp
  have HL15 := Lib.hid hL
  simp only [List.nil_append, List.cons_append, List.set_cons_succ, List.set_cons_zero, List.map_cons, List.map_nil, List.append_nil] at HL15
  clear hL hR hp HL14
  go_wp2_with fail
  refine ((HL15.out.alloc _ _).qPurge (zs := [1, 9]) 0 rfl (fun W hW => ints_box rfl (hW 6 _ (by decide) rfl)) (by simp) (by simp)).mono ?_
  rintro e w14 ⟨rfl, hL⟩
  rw [purge13 HE.out.2.1 HE.out.2.2] at hL ⊢
  have hlen : ((([yb, yc] : List ME).length - ([yb] : List ME).length : Nat) : Int) = 1 := rfl
  rw [hlen]
  have HL16 := Lib.hid hL
  simp only [List.nil_append, List.cons_append, List.set_cons_succ, List.set_cons_zero] at HL16
  clear hL hlen HL15
  go_wp2_with fail
  refine (HL16.out.qAt1 0 1 rfl rfl (fun e he => by simp at he; subst he; exact ⟨by simp, pOf_nodes HE.out.2.1⟩) 1).mono ?_
  rintro e w15 ⟨xc, c, rfl, hR, hL⟩
  obtain rfl : c = false := by
    rcases hR with ⟨h1, _, h3⟩ | ⟨h1, h2, _⟩
    · simp at h3
    · exact h1
  have HL17 := Lib.hid hL
  simp only [List.nil_append, List.cons_append, List.set_cons_succ, List.set_cons_zero] at HL17
  clear hL hR HL16
  simp only [ent_eq]
  go_wp2_with fail
  refine wp_name ?_
  intro w16 hw16
  have HL18 := Lib.hid (HL17.out.al1 hw16)
  have HX1 : Hid (EntAt w16 bx 0 ya) := by obtain ⟨c0, c1, c2, c3, c4, c5, c6, _⟩ := HL18.out.c7 3 rfl; exact ⟨c0, c1, c2, c3, c4, c5, c6⟩
  have HY1 : Hid (EntAt w16 by_ 0 xb) := by obtain ⟨c0, c1, c2, c3, c4, c5, c6, _⟩ := HL18.out.c7 4 rfl; exact ⟨c0, c1, c2, c3, c4, c5, c6⟩
  obtain ⟨_, _, _, _, _, _, _, _, zx, _, _⟩ := HL18.out.c7 3 rfl
  obtain ⟨_, _, _, _, _, _, _, _, zy, _, _⟩ := HL18.out.c7 4 rfl
  have HVX : Hid (ya.v.In w16) := HL18.out.valsIn 1 rfl _ (by simp)
  have HVY : Hid (xb.v.In w16) := HL18.out.valsIn 1 rfl _ (by simp)
  have HQ : Hid (QAt w16 g [yb]) := HL18.out.qAt 0 rfl
  have HSX := Lib.hid (fun x s t (h : (x = ya ∧ s = 1 ∧ t = 7) ∨ (x = xb ∧ s = 2 ∧ t = 8)) W (hW : Touch [] w16 W) => SameEntry_of x s t W (by rcases h with ⟨rfl, _⟩ | ⟨rfl, _⟩; exact HVX.out.touch0 hW; exact HVY.out.touch0 hW) (by rcases h with ⟨rfl, rfl, rfl⟩ | ⟨rfl, rfl, rfl⟩; exact HE.out.1; exact HX2.out))
  have HLN : Hid (∀ W (hW : Touch [] w16 W), Calls Try.prog 19 #[.pointer (some ⟨g, 0, none⟩)] W fun e w' => e = .returned (.int .i64 1) ∧ W = w') := fun W hW => Len_q W g _ (HQ.out.touch hW)
  have HTT := Lib.hid HL18.out.tch
  have HTm := Lib.hid ((Touch.refl [] w16).drew)
  clear hw16 HL17 HL18 HVX HVY HQ HE HX2
  (obtain ⟨x0, x1, x2, x3, x4, x5, x6⟩ := HX1.out.touch HTm.out; obtain ⟨y0, y1, y2, y3, y4, y5, y6⟩ := HY1.out.touch HTm.out; simp only [Nat.zero_add] at x1 x2 x3 x4 x5 x6 y1 y2 y3 y4 y5 y6)
  go_region_held3 (fun w' => w'.cell? ⟨bx, 0, none⟩ = some (.int .i64 ya.sync) ∧ w'.cell? ⟨bx, 1, none⟩ = some (.int .i64 ya.thread) ∧ w'.cell? ⟨bx, 2, none⟩ = some (.int .i64 ya.branch) ∧ w'.cell? ⟨bx, 3, none⟩ = some (.int .i64 ya.flag) ∧ w'.cell? ⟨bx, 4, none⟩ = some (.int .i64 ya.v.kind) ∧ w'.cell? ⟨bx, 5, none⟩ = some (.int .i64 ya.v.num) ∧ w'.cell? ⟨bx, 6, none⟩ = some (.slice ya.v.addr ya.v.parts.length ya.v.cap) ∧
      w'.cell? ⟨by_, 0, none⟩ = some (.int .i64 xb.sync) ∧ w'.cell? ⟨by_, 1, none⟩ = some (.int .i64 xb.thread) ∧ w'.cell? ⟨by_, 2, none⟩ = some (.int .i64 xb.branch) ∧ w'.cell? ⟨by_, 3, none⟩ = some (.int .i64 xb.flag) ∧ w'.cell? ⟨by_, 4, none⟩ = some (.int .i64 xb.v.kind) ∧ w'.cell? ⟨by_, 5, none⟩ = some (.int .i64 xb.v.num) ∧ w'.cell? ⟨by_, 6, none⟩ = some (.slice xb.v.addr xb.v.parts.length xb.v.cap)) (go_keep)
    (first
    | (go_at_call 15; refine (num13 _ _).mono ?_; rintro en wn ⟨rfl, rfl⟩)
    | (go_at_call 19; refine (HLN.out _ HTm.out).mono ?_; rintro en wn ⟨rfl, rfl⟩)
    | (go_at_call 17; refine (of13 _ _ _).mono ?_; rintro en wn ⟨rfl, ht⟩; have HTm := Lib.hid (HTm.out.trans' ht); clear ht x0 x1 x2 x3 x4 x5 x6 y0 y1 y2 y3 y4 y5 y6; (obtain ⟨x0, x1, x2, x3, x4, x5, x6⟩ := HX1.out.touch HTm.out; obtain ⟨y0, y1, y2, y3, y4, y5, y6⟩ := HY1.out.touch HTm.out; simp only [Nat.zero_add] at x1 x2 x3 x4 x5 x6 y1 y2 y3 y4 y5 y6))
    | (go_at_call 21; refine (HSX.out _ _ _ (by first | exact Or.inl ⟨rfl, rfl, rfl⟩ | exact Or.inr ⟨rfl, rfl, rfl⟩) _ HTm.out).mono ?_; rintro en wn ⟨rfl, ht⟩; have HTm := Lib.hid (HTm.out.trans' ht); clear ht x0 x1 x2 x3 x4 x5 x6 y0 y1 y2 y3 y4 y5 y6; (obtain ⟨x0, x1, x2, x3, x4, x5, x6⟩ := HX1.out.touch HTm.out; obtain ⟨y0, y1, y2, y3, y4, y5, y6⟩ := HY1.out.touch HTm.out; simp only [Nat.zero_add] at x1 x2 x3 x4 x5 x6 y1 y2 y3 y4 y5 y6)))
  clear x0 x1 x2 x3 x4 x5 x6 y0 y1 y2 y3 y4 y5 y6
  go_wp2
  go_ret
  exact ⟨rfl, HTT.out.trans' HTm.out⟩
end Go.Proofs.Ytihmbgdkllmkaaa

/-
  QueueSame (betrothallaw13/law.go): its walk: for any two entries it returns true, and nothing that was there has turned.
-/
namespace Go.Proofs.Ytihmbgdkllmkaaa
open Go.RowKit Go.Shelf
set_option maxRecDepth 100000
set_option linter.unusedVariables false
set_option linter.unusedSimpArgs false

/-- Two boxes of entries, and what is told of a third world. -/
theorem two_ents (x y : ME) (w w' : World) (ht : Touch [] ((w.alloc (.cells #[.int .i64 x.sync, .int .i64 x.thread, .int .i64 x.branch, .int .i64 x.flag, .int .i64 x.v.kind, .int .i64 x.v.num, .slice x.v.addr x.v.parts.length x.v.cap] 27)).alloc (.cells #[.int .i64 y.sync, .int .i64 y.thread, .int .i64 y.branch, .int .i64 y.flag, .int .i64 y.v.kind, .int .i64 y.v.num, .slice y.v.addr y.v.parts.length y.v.cap] 27)) w') :
    EntAt w' w.heap.size 0 x ∧ EntAt w' (w.heap.size + 1) 0 y ∧ w.heap.size < w'.heap.size ∧ w.heap.size + 1 < w'.heap.size := by
  have hL := ((Led.nil' w).al2 rfl).touch ht
  obtain ⟨c0, c1, c2, c3, c4, c5, c6, _, z, _⟩ := hL.c7 0 rfl
  obtain ⟨d0, d1, d2, d3, d4, d5, d6, _, z', _⟩ := hL.c7 1 rfl
  exact ⟨⟨c0, c1, c2, c3, c4, c5, c6⟩, ⟨d0, d1, d2, d3, d4, d5, d6⟩, z, z'⟩
theorem Size_small (t : MT) (w : World) (hin : t.In w) (hno : t.nodes ≤ 256) : Calls Try.prog 11 #[t.val] w fun e w' => e = .returned (.int .i64 (t.nodes : Int)) ∧ Touch [] w w' := by
  refine (Size_ref t w hin (by omega)).mono ?_
  rintro e w' ⟨rfl, ht⟩
  exact ⟨by rw [Nat.min_eq_left (by omega)], ht⟩
theorem Size_big (t : MT) (w : World) (hin : t.In w) (hno : t.nodes ≤ 1048576) (h : ¬ t.nodes ≤ 256) : Calls Try.prog 11 #[t.val] w fun e w' => e = .returned (.int .i64 257) ∧ Touch [] w w' := by
  refine (Size_ref t w hin hno).mono ?_
  rintro e w' ⟨rfl, ht⟩
  exact ⟨by rw [Nat.min_eq_right (by omega)]; rfl, ht⟩
theorem bool_eq {a b : Bool} {p q : Prop} (ha : a = true ↔ p) (hb : b = true ↔ q) (h : p ↔ q) : a = b := by
  rw [Bool.eq_iff_iff, ha, hb, h]
set_option maxHeartbeats 4000000 in
theorem queueSame_any (x y : ME) (w : World) (hx : x.v.In w) (hy : y.v.In w) (hnx : x.v.nodes ≤ 1048576) (hny : y.v.nodes ≤ 1048576) :
    Calls Try.prog 4 #[x.val, y.val] w fun e w' => e = .returned (.bool true) ∧ Below w.heap.size w w' := by
  by_cases cx : x.v.nodes ≤ 256
  · have dx : (x.v.nodes : Int) ≤ 256 := by omega
    by_cases cy : y.v.nodes ≤ 256
    · have dy : (y.v.nodes : Int) ≤ 256 := by omega
      have HSX := Lib.hid (fun W (hW : Touch [] w W) => Size_small x.v W (hx.touch0 hW) cx)
      have HSY := Lib.hid (fun W (hW : Touch [] w W) => Size_small y.v W (hy.touch0 hW) cy)
      have HRE := Lib.hid (fun W (hW : Touch [] w W) => SameEntry_ref x y W (hx.touch0 hW) (hy.touch0 hW) hnx hny)
      have HXY := Lib.hid (fun W (hW : Touch [] w W) => SameEntry_q x y W (hx.touch0 hW) (hy.touch0 hW))
      have HYX := Lib.hid (fun W (hW : Touch [] w W) => SameEntry_q y x W (hy.touch0 hW) (hx.touch0 hW))
      have HXX := Lib.hid (fun W (hW : Touch [] w W) => SameEntry_q x x W (hx.touch0 hW) (hx.touch0 hW))
      clear hx hy hnx hny
      simp only [ent_eq, val_eq] at HSX HSY HRE HXY HYX HXX ⊢
      have z1 : w.heap.size < w.heap.size + 1 := by omega
      have z2 : w.heap.size < w.heap.size + 1 + 1 := by omega
      have HT0 := Lib.hid (((Touch.refl [] w).alloc (.cells #[.int .i64 x.sync, .int .i64 x.thread, .int .i64 x.branch, .int .i64 x.flag, .int .i64 x.v.kind, .int .i64 x.v.num, .slice x.v.addr x.v.parts.length x.v.cap] 27)).alloc (.cells #[.int .i64 y.sync, .int .i64 y.thread, .int .i64 y.branch, .int .i64 y.flag, .int .i64 y.v.kind, .int .i64 y.v.num, .slice y.v.addr y.v.parts.length y.v.cap] 27))
      go_enter Try.func4, Try.ntmps4
      go_wp2_with fail
      refine (HSX.out _ HT0.out).mono ?_
      rintro e w1 ⟨rfl, ht⟩
      have HT := Lib.hid ht
      clear ht z1 z2
      obtain ⟨hx, hy, z1, z2⟩ := two_ents x y w w1 HT.out
      obtain ⟨x0, x1, x2, x3, x4, x5, x6⟩ := hx
      obtain ⟨y0, y1, y2, y3, y4, y5, y6⟩ := hy
      simp only [Nat.zero_add] at x1 x2 x3 x4 x5 x6 y1 y2 y3 y4 y5 y6
      go_wp2_with fail
      refine (HSY.out _ (HT0.out.trans' HT.out)).mono ?_
      rintro e w2 ⟨rfl, ht2⟩
      have HTN := Lib.hid (HT.out.trans' ht2)
      clear ht2 HT
      have HT := Lib.hid HTN.out
      clear HTN
      clear x0 x1 x2 x3 x4 x5 x6 y0 y1 y2 y3 y4 y5 y6 z1 z2
      obtain ⟨hx, hy, z1, z2⟩ := two_ents x y w w2 HT.out
      obtain ⟨x0, x1, x2, x3, x4, x5, x6⟩ := hx
      obtain ⟨y0, y1, y2, y3, y4, y5, y6⟩ := hy
      simp only [Nat.zero_add] at x1 x2 x3 x4 x5 x6 y1 y2 y3 y4 y5 y6
      go_wp2_with fail
      refine (HRE.out _ (HT0.out.trans' HT.out)).mono ?_
      rintro e w3 ⟨c1, rfl, hc1, ht2⟩
      have HTN := Lib.hid (HT.out.trans' ht2)
      clear ht2 HT
      have HT := Lib.hid HTN.out
      clear HTN
      clear x0 x1 x2 x3 x4 x5 x6 y0 y1 y2 y3 y4 y5 y6 z1 z2
      obtain ⟨hx, hy, z1, z2⟩ := two_ents x y w w3 HT.out
      obtain ⟨x0, x1, x2, x3, x4, x5, x6⟩ := hx
      obtain ⟨y0, y1, y2, y3, y4, y5, y6⟩ := hy
      simp only [Nat.zero_add] at x1 x2 x3 x4 x5 x6 y1 y2 y3 y4 y5 y6
      have HC1 : Hid (∀ c : Bool, (c = true ↔ x.v.nodes ≤ 256 ∧ y.v.nodes ≤ 256 ∧ x.plain = y.plain) → c = c1) := fun c h => bool_eq h hc1 Iff.rfl
      have HC2 : Hid (∀ c : Bool, (c = true ↔ y.v.nodes ≤ 256 ∧ x.v.nodes ≤ 256 ∧ y.plain = x.plain) → c = c1) := fun c h => bool_eq h hc1 ⟨fun ⟨a, b, c⟩ => ⟨b, a, c.symm⟩, fun ⟨a, b, c⟩ => ⟨b, a, c.symm⟩⟩
      clear hc1
      cases c1
      all_goals
        go_wp2_with fail
        refine (HXY.out _ (HT0.out.trans' HT.out)).mono ?_
        rintro e w4 ⟨c2, rfl, hc2, ht2⟩
        have HTN := Lib.hid (HT.out.trans' ht2)
        clear ht2 HT
        have HT := Lib.hid HTN.out
        clear HTN
        clear x0 x1 x2 x3 x4 x5 x6 y0 y1 y2 y3 y4 y5 y6 z1 z2
        obtain ⟨hx, hy, z1, z2⟩ := two_ents x y w w4 HT.out
        obtain ⟨x0, x1, x2, x3, x4, x5, x6⟩ := hx
        obtain ⟨y0, y1, y2, y3, y4, y5, y6⟩ := hy
        simp only [Nat.zero_add] at x1 x2 x3 x4 x5 x6 y1 y2 y3 y4 y5 y6
        obtain rfl := HC1.out _ hc2
        clear hc2
        go_wp2_with fail
        refine (HYX.out _ (HT0.out.trans' HT.out)).mono ?_
        rintro e w5 ⟨c3, rfl, hc3, ht2⟩
        have HTN := Lib.hid (HT.out.trans' ht2)
        clear ht2 HT
        have HT := Lib.hid HTN.out
        clear HTN
        clear x0 x1 x2 x3 x4 x5 x6 y0 y1 y2 y3 y4 y5 y6 z1 z2
        obtain ⟨hx, hy, z1, z2⟩ := two_ents x y w w5 HT.out
        obtain ⟨x0, x1, x2, x3, x4, x5, x6⟩ := hx
        obtain ⟨y0, y1, y2, y3, y4, y5, y6⟩ := hy
        simp only [Nat.zero_add] at x1 x2 x3 x4 x5 x6 y1 y2 y3 y4 y5 y6
        obtain rfl := HC2.out _ hc3
        clear hc3
        go_wp2_with fail
        refine (HXX.out _ (HT0.out.trans' HT.out)).mono ?_
        rintro e w6 ⟨c4, rfl, hc4, ht2⟩
        have HTN := Lib.hid (HT.out.trans' ht2)
        clear ht2 HT
        have HT := Lib.hid HTN.out
        clear HTN
        clear x0 x1 x2 x3 x4 x5 x6 y0 y1 y2 y3 y4 y5 y6 z1 z2
        obtain ⟨hx, hy, z1, z2⟩ := two_ents x y w w6 HT.out
        obtain ⟨x0, x1, x2, x3, x4, x5, x6⟩ := hx
        obtain ⟨y0, y1, y2, y3, y4, y5, y6⟩ := hy
        simp only [Nat.zero_add] at x1 x2 x3 x4 x5 x6 y1 y2 y3 y4 y5 y6
        obtain rfl : c4 = true := by rw [hc4]; simp [cx]
        clear hc4
        go_wp2_with fail
        refine (works13 _).mono ?_
        rintro e w9 ⟨rfl, ht⟩
        have HT2 := Lib.hid (HT.out.trans' ht)
        clear x0 x1 x2 x3 x4 x5 x6 y0 y1 y2 y3 y4 y5 y6 z1 z2
        clear ht HT
        go_wp2
        go_ret
        exact ⟨rfl, (HT0.out.trans' HT2.out).below⟩
    · have HSX := Lib.hid (fun W (hW : Touch [] w W) => Size_small x.v W (hx.touch0 hW) cx)
      have HSY := Lib.hid (fun W (hW : Touch [] w W) => Size_big y.v W (hy.touch0 hW) hny cy)
      have HRE := Lib.hid (fun W (hW : Touch [] w W) => SameEntry_ref x y W (hx.touch0 hW) (hy.touch0 hW) hnx hny)
      have HXY := Lib.hid (fun W (hW : Touch [] w W) => SameEntry_q x y W (hx.touch0 hW) (hy.touch0 hW))
      have HYX := Lib.hid (fun W (hW : Touch [] w W) => SameEntry_q y x W (hy.touch0 hW) (hx.touch0 hW))
      have HXX := Lib.hid (fun W (hW : Touch [] w W) => SameEntry_q x x W (hx.touch0 hW) (hx.touch0 hW))
      clear hx hy hnx hny
      simp only [ent_eq, val_eq] at HSX HSY HRE HXY HYX HXX ⊢
      have z1 : w.heap.size < w.heap.size + 1 := by omega
      have z2 : w.heap.size < w.heap.size + 1 + 1 := by omega
      have HT0 := Lib.hid (((Touch.refl [] w).alloc (.cells #[.int .i64 x.sync, .int .i64 x.thread, .int .i64 x.branch, .int .i64 x.flag, .int .i64 x.v.kind, .int .i64 x.v.num, .slice x.v.addr x.v.parts.length x.v.cap] 27)).alloc (.cells #[.int .i64 y.sync, .int .i64 y.thread, .int .i64 y.branch, .int .i64 y.flag, .int .i64 y.v.kind, .int .i64 y.v.num, .slice y.v.addr y.v.parts.length y.v.cap] 27))
      go_enter Try.func4, Try.ntmps4
      go_wp2_with fail
      refine (HSX.out _ HT0.out).mono ?_
      rintro e w1 ⟨rfl, ht⟩
      have HT := Lib.hid ht
      clear ht z1 z2
      obtain ⟨hx, hy, z1, z2⟩ := two_ents x y w w1 HT.out
      obtain ⟨x0, x1, x2, x3, x4, x5, x6⟩ := hx
      obtain ⟨y0, y1, y2, y3, y4, y5, y6⟩ := hy
      simp only [Nat.zero_add] at x1 x2 x3 x4 x5 x6 y1 y2 y3 y4 y5 y6
      go_wp2_with fail
      refine (HSY.out _ (HT0.out.trans' HT.out)).mono ?_
      rintro e w2 ⟨rfl, ht2⟩
      have HTN := Lib.hid (HT.out.trans' ht2)
      clear ht2 HT
      have HT := Lib.hid HTN.out
      clear HTN
      clear x0 x1 x2 x3 x4 x5 x6 y0 y1 y2 y3 y4 y5 y6 z1 z2
      obtain ⟨hx, hy, z1, z2⟩ := two_ents x y w w2 HT.out
      obtain ⟨x0, x1, x2, x3, x4, x5, x6⟩ := hx
      obtain ⟨y0, y1, y2, y3, y4, y5, y6⟩ := hy
      simp only [Nat.zero_add] at x1 x2 x3 x4 x5 x6 y1 y2 y3 y4 y5 y6
      go_wp2_with fail
      refine (works13 _).mono ?_
      rintro e w9 ⟨rfl, ht⟩
      have HT2 := Lib.hid (HT.out.trans' ht)
      clear x0 x1 x2 x3 x4 x5 x6 y0 y1 y2 y3 y4 y5 y6 z1 z2
      clear ht HT
      go_wp2
      go_ret
      exact ⟨rfl, (HT0.out.trans' HT2.out).below⟩
  · have HSX := Lib.hid (fun W (hW : Touch [] w W) => Size_big x.v W (hx.touch0 hW) hnx cx)
    have HSY := Lib.hid (fun W (hW : Touch [] w W) => Size_ref y.v W (hy.touch0 hW) hny)
    have HRE := Lib.hid (fun W (hW : Touch [] w W) => SameEntry_ref x y W (hx.touch0 hW) (hy.touch0 hW) hnx hny)
    have HXY := Lib.hid (fun W (hW : Touch [] w W) => SameEntry_q x y W (hx.touch0 hW) (hy.touch0 hW))
    have HYX := Lib.hid (fun W (hW : Touch [] w W) => SameEntry_q y x W (hy.touch0 hW) (hx.touch0 hW))
    have HXX := Lib.hid (fun W (hW : Touch [] w W) => SameEntry_q x x W (hx.touch0 hW) (hx.touch0 hW))
    clear hx hy hnx hny
    simp only [ent_eq, val_eq] at HSX HSY HRE HXY HYX HXX ⊢
    have z1 : w.heap.size < w.heap.size + 1 := by omega
    have z2 : w.heap.size < w.heap.size + 1 + 1 := by omega
    have HT0 := Lib.hid (((Touch.refl [] w).alloc (.cells #[.int .i64 x.sync, .int .i64 x.thread, .int .i64 x.branch, .int .i64 x.flag, .int .i64 x.v.kind, .int .i64 x.v.num, .slice x.v.addr x.v.parts.length x.v.cap] 27)).alloc (.cells #[.int .i64 y.sync, .int .i64 y.thread, .int .i64 y.branch, .int .i64 y.flag, .int .i64 y.v.kind, .int .i64 y.v.num, .slice y.v.addr y.v.parts.length y.v.cap] 27))
    go_enter Try.func4, Try.ntmps4
    go_wp2_with fail
    refine (HSX.out _ HT0.out).mono ?_
    rintro e w1 ⟨rfl, ht⟩
    have HT := Lib.hid ht
    clear ht z1 z2
    obtain ⟨hx, hy, z1, z2⟩ := two_ents x y w w1 HT.out
    obtain ⟨x0, x1, x2, x3, x4, x5, x6⟩ := hx
    obtain ⟨y0, y1, y2, y3, y4, y5, y6⟩ := hy
    simp only [Nat.zero_add] at x1 x2 x3 x4 x5 x6 y1 y2 y3 y4 y5 y6
    go_wp2_with fail
    refine (works13 _).mono ?_
    rintro e w9 ⟨rfl, ht⟩
    have HT2 := Lib.hid (HT.out.trans' ht)
    clear x0 x1 x2 x3 x4 x5 x6 y0 y1 y2 y3 y4 y5 y6 z1 z2
    clear ht HT
    go_wp2
    go_ret
    exact ⟨rfl, (HT0.out.trans' HT2.out).below⟩
end Go.Proofs.Ytihmbgdkllmkaaa

/-
  QueueFull (betrothallaw13/law.go): its walk: for every entry and every number it returns true, and nothing that was there has turned.
-/
namespace Go.Proofs.Ytihmbgdkllmkaaa
open Go.RowKit Go.Shelf
set_option maxRecDepth 100000
set_option linter.unusedVariables false
set_option linter.unusedSimpArgs false

section
variable {T : List Nat} {w0 w w' : World} {l : List Thing} {g : Nat} {es : List ME}
theorem Led.qPush2 {vs : List MT} {xs : List ME} {a : Option Addr} {cap : Nat} (h : Led T w0 w l) (i j : Nat) (hi : l[i]? = some (queueT g es)) (hj : l[j]? = some (valsT vs)) (hij : i ≠ j) (hsrc : ∀ W, Beside l i W → Touch T w0 W → EntsAt W a xs ∧ ∀ x ∈ xs, x.v.In W) (hn : xs.length ≤ 1099511627776) (hes : es.length ≤ 4096) :
    Calls Try.prog 14 #[.pointer (some ⟨g, 0, none⟩), .slice a xs.length cap] w fun e w' => ∃ k err ys, e = .returned (.int .i64 err) ∧ PushR es.length (xs.map ME.plain) k err ∧ ys.map ME.plain = (xs.map ME.plain).take k ∧ Led T w0 w' ((l.set i (queueT g (es ++ ys))).set j (valsT (vs ++ ys.map ME.v))) := by
  obtain ⟨T', h1, hT', hk, hb⟩ := h.frameK i hi
  refine (Push_q T' w g es xs a cap h1 (fun W hW => hsrc W (hk W hW) (h.tch.trans hW hT')) hn hes).mono ?_
  rintro e w' ⟨k, err, ys, rfl, hR, hp, hL⟩
  refine ⟨k, err, ys, rfl, hR, hp, (hb _ _ _ hL).valsInto j ?_⟩
  rwa [List.getElem?_set_ne hij]
end
/-- So many zero entries, as a block. -/
def zeroEnts (m : Nat) : Array Value := (entCells (List.replicate m ME.zero)).toArray
theorem entZ_eq (m : Nat) : entZ m = zeroEnts m := by
  apply Array.ext
  · simp [entZ, madeCells, zeroEnts, entCells_length]
  · intro i h1 h2
    have hi : i < m * 7 := by simpa [entZ, madeCells] using h1
    have hg := entCells_get (List.replicate m ME.zero) (i / 7) (by simp; omega) (i % 7) (by omega)
    rw [show i / 7 * 7 + i % 7 = i by omega] at hg
    have : (zeroEnts m)[i]? = (ME.zero.cells)[i % 7]? := by
      simp only [zeroEnts, List.getElem?_toArray]
      rw [hg]
      simp
    rw [Array.getElem?_eq_getElem h2] at this
    have h3 : i % 7 = 0 ∨ i % 7 = 1 ∨ i % 7 = 2 ∨ i % 7 = 3 ∨ i % 7 = 4 ∨ i % 7 = 5 ∨ i % 7 = 6 := by omega
    simp only [entZ, madeCells, Array.getElem_ofFn]
    rcases h3 with h3 | h3 | h3 | h3 | h3 | h3 | h3 <;> simp [h3, ME.cells, ME.zero, MT.zero, MT.kind, MT.num, MT.sl, MT.addr, MT.parts, MT.cap] at this ⊢ <;> exact this.symm
theorem made_zents (m : Nat) (hm : m ≤ 1048576) (W : World) : (Instr.makeSlice 32 (.int .i64 (m : Int)) (.int .i64 (m : Int))).run Try.prog W =
    .ok (.slice (some ⟨W.heap.size, 0, none⟩) m m) (W.alloc (.cells (zeroEnts m) 27)) := by
  obtain ⟨i0, hi, iz0, iz1, iz2⟩ := info_parts info_ent
  have hr := run_make (P := Try.prog) W 32 27 i0 _ Try.underlying32 hi iz0 .i64 .i64 m m (by omega) (by omega) (by rw [iz2]; omega) (by omega)
  rw [iz1] at hr
  have he := entZ_eq m
  unfold entZ at he
  simpa [Value.cells, he] using hr
theorem idx_last {es : List PE} {s : Int} {p : PE} (h0 : ∀ e ∈ es, e.sync ≠ s) (hp : p.sync = s) : IdxR (fun e => e.sync = s) (es ++ [p]) 0 (es.length : Int) :=
  .inr ⟨es.length, by simp, rfl, by simp, by simpa using hp, fun i hi _ hlt => by
    rw [List.getElem_append_left hlt]; exact h0 _ (List.getElem_mem hlt)⟩
theorem idx_none {es : List PE} {s : Int} (h0 : ∀ e ∈ es, e.sync ≠ s) : IdxR (fun e => e.sync = s) es 0 (-1) := .inl ⟨rfl, fun j hj _ => h0 _ (List.getElem_mem hj)⟩
theorem PushR.full {x : PE} {xs : List PE} {k : Nat} {err : Int} (h : PushR 4096 (x :: xs) k err) (hx : x.Ok) : k = 0 ∧ err = 6 := by
  obtain ⟨h1, h2, h3, h4⟩ := h
  obtain rfl : k = 0 := by omega
  rcases h4 with h4 | ⟨hk, h4 | h4⟩
  · simp at h4
  · exact absurd hx h4.2
  · exact ⟨rfl, h4.1⟩
theorem PushR.one {x y : PE} {k : Nat} {err : Int} (h : PushR 4095 [x, y] k err) (hx : x.Ok) (hy : y.Ok) : k = 1 ∧ err = 6 := by
  obtain ⟨h1, h2, h3, h4⟩ := h
  have hk : k = 0 ∨ k = 1 := by omega
  rcases hk with rfl | rfl
  · rcases h4 with h4 | ⟨hk, h4 | h4⟩
    · simp at h4
    · exact absurd hx h4.2
    · omega
  · rcases h4 with h4 | ⟨hk, h4 | h4⟩
    · simp at h4
    · exact absurd hy h4.2
    · exact ⟨rfl, h4.1⟩
theorem zero_ok : ME.zero.plain.Ok := ⟨Int.le_refl 0, Int.le_refl 0, Int.le_refl 0, Int.le_refl 0, .inl rfl⟩
theorem ents_zeros {W : World} {c gl m k : Nat} (hk : k ≤ m) (h : ∃ f, (box gl c (zeroEnts m)).holds W f) : EntsAt W (some ⟨gl, 0, none⟩) (List.replicate k ME.zero) := by
  have h1 := ents_box (xs := List.replicate m ME.zero) rfl h
  intro i hi
  simp only [List.length_replicate] at hi
  obtain ⟨b, o, ha, hb, he⟩ := h1 i (by simp; omega)
  refine ⟨b, o, ha, hb, ?_⟩
  simpa using he

set_option maxHeartbeats 4000000 in
theorem queueFull_out (x : ME) (z : Int) (w : World) (hx : x.v.In w) (hnx : x.v.nodes ≤ 1048576) (h : z < 1 ∨ 5000 < z) :
    Calls Try.prog 3 #[x.val, .int .i64 z] w fun e w' => e = .returned (.bool true) ∧ Below w.heap.size w w' := by
  rcases h with h | h
  · simp only [ent_eq, val_eq] at ⊢
    have HT0 := Lib.hid ((Touch.refl [] w).alloc (.cells #[.int .i64 x.sync, .int .i64 x.thread, .int .i64 x.branch, .int .i64 x.flag, .int .i64 x.v.kind, .int .i64 x.v.num, .slice x.v.addr x.v.parts.length x.v.cap] 27))
    go_enter Try.func3, Try.ntmps3
    go_wp2_with fail
    refine (works13 _).mono ?_
    rintro e w9 ⟨rfl, ht⟩
    have HT2 := Lib.hid (HT0.out.trans' ht)
    clear ht
    go_wp2
    go_ret
    exact ⟨rfl, HT2.out.below⟩
  · have h' : ¬ z < 1 := by omega
    simp only [ent_eq, val_eq] at ⊢
    have HT0 := Lib.hid ((Touch.refl [] w).alloc (.cells #[.int .i64 x.sync, .int .i64 x.thread, .int .i64 x.branch, .int .i64 x.flag, .int .i64 x.v.kind, .int .i64 x.v.num, .slice x.v.addr x.v.parts.length x.v.cap] 27))
    go_enter Try.func3, Try.ntmps3
    go_wp2_with fail
    refine (works13 _).mono ?_
    rintro e w9 ⟨rfl, ht⟩
    have HT2 := Lib.hid (HT0.out.trans' ht)
    clear ht
    go_wp2
    go_ret
    exact ⟨rfl, HT2.out.below⟩
set_option maxHeartbeats 4000000 in
theorem queueFull_big (x : ME) (z : Int) (w : World) (hx : x.v.In w) (hnx : x.v.nodes ≤ 1048576) (h1 : 1 ≤ z) (h2 : z ≤ 5000) (hb : ¬ x.v.nodes ≤ 256) :
    Calls Try.prog 3 #[x.val, .int .i64 z] w fun e w' => e = .returned (.bool true) ∧ Below w.heap.size w w' := by
  have HSX := Lib.hid (fun W (hW : Touch [] w W) => Size_big x.v W (hx.touch0 hW) hnx hb)
  clear hx hnx hb
  simp only [val_eq] at HSX
  have z1 : w.heap.size < w.heap.size + 1 := by omega
  simp only [ent_eq, val_eq] at ⊢
  have HT0 := Lib.hid ((Touch.refl [] w).alloc (.cells #[.int .i64 x.sync, .int .i64 x.thread, .int .i64 x.branch, .int .i64 x.flag, .int .i64 x.v.kind, .int .i64 x.v.num, .slice x.v.addr x.v.parts.length x.v.cap] 27))
  go_enter Try.func3, Try.ntmps3
  go_wp2_with fail
  refine (HSX.out _ HT0.out).mono ?_
  rintro e w1 ⟨rfl, ht⟩
  have HT := Lib.hid (HT0.out.trans' ht)
  clear ht z1
  go_wp2_with fail
  refine (works13 _).mono ?_
  rintro e w9 ⟨rfl, ht⟩
  have HT2 := Lib.hid (HT.out.trans' ht)
  clear ht
  go_wp2
  go_ret
  exact ⟨rfl, HT2.out.below⟩
set_option maxHeartbeats 4000000 in
theorem queueFull_in (x : ME) (m : Nat) (w : World) (hx : x.v.In w) (h1 : 1 ≤ m) (h2 : m ≤ 5000) (hb : x.v.nodes ≤ 256) :
    Calls Try.prog 3 #[x.val, .int .i64 (m : Int)] w fun e w' => e = .returned (.bool true) ∧ Below w.heap.size w w' := by
  have HSX := Lib.hid (fun W (hW : Touch [] w W) => Size_small x.v W (hx.touch0 hW) hb)
  have HRX := Lib.hid (fun W (hW : Touch [] w W) => Right_ent x W (hx.touch0 hW) (by omega))
  have HIN := Lib.hid (fun W (hW : Touch [] w W) => hx.touch0 hW)
  have hb' : decide ((256 : Int) < (x.v.nodes : Int)) = false := by simp; omega
  have h1' : ¬ (m : Int) < 1 := by omega
  have h2' : ¬ (5000 : Int) < (m : Int) := by omega
  clear hx hb
  simp only [val_eq, ent_eq] at HSX HRX
  have z1 : w.heap.size < w.heap.size + 1 := by omega
  simp only [ent_eq, val_eq] at ⊢
  have HT0 := Lib.hid ((Touch.refl [] w).alloc (.cells #[.int .i64 x.sync, .int .i64 x.thread, .int .i64 x.branch, .int .i64 x.flag, .int .i64 x.v.kind, .int .i64 x.v.num, .slice x.v.addr x.v.parts.length x.v.cap] 27))
  go_enter Try.func3, Try.ntmps3
  go_wp2_with fail
  refine (HSX.out _ HT0.out).mono ?_
  rintro e w1 ⟨rfl, ht⟩
  have HL1 := Lib.hid (((Led.nil' w).al1 rfl).touch ht)
  simp only [List.nil_append] at HL1
  obtain ⟨bx, hbx⟩ : ∃ b, w.heap.size = b := ⟨_, rfl⟩
  rw [hbx] at HL1 ⊢
  clear ht z1 HT0 hbx
  go_wp2_with fail
  refine (New_q w1 HL1.out).mono ?_
  rintro e w2 ⟨g, rfl, hL⟩
  have HL2 := Lib.hid hL.vals0
  simp only [List.nil_append, List.cons_append] at HL2
  clear hL HL1
  have hmk := made_zents m (by omega)
  go_wp2_with fail
  refine wp_name ?_
  intro w3 hw3
  have HL3 := Lib.hid (HL2.out.al1 hw3)
  simp only [List.nil_append, List.cons_append] at HL3
  obtain ⟨gl, hgl⟩ : ∃ b, w2.heap.size = b := ⟨_, rfl⟩
  rw [hgl] at HL3 ⊢
  clear hw3 HL2 hgl hmk
  go_loopw [7] (fun i wr => ∃ (n : Nat) (es : List ME) (vs : List MT), i = .int .i64 (n : Int) ∧ n ≤ 9096 ∧ Hid (es.length = min n 4096) ∧ Hid (∀ e ∈ es.map ME.plain, e.sync = 0) ∧
    Hid (Led [] w wr [box bx 27 #[.int .i64 x.sync, .int .i64 x.thread, .int .i64 x.branch, .int .i64 x.flag, .int .i64 x.v.kind, .int .i64 x.v.num, .slice x.v.addr x.v.parts.length x.v.cap], queueT g es, valsT vs, box gl 27 (zeroEnts m)])) (fun i _ => 4096 - (intOf i).toNat)
  case atStart => exact ⟨0, [], [], rfl, by omega, rfl, by unfold Hid; simp, HL3⟩
  case round =>
    obtain ⟨n, es, vs, rfl, hn, HE, HS, HL⟩ := hrel
    by_cases hlt : n < 4096
    · have hlt' : (n : Int) < 4096 := by omega
      have hm1 : (1 : Int) ≤ (m : Int) := by omega
      by_cases hc : m ≤ 4096 - n
      · have hc' : (m : Int) ≤ 4096 - (n : Int) := by omega
        go_wp2_with fail
        have hps := HL.out.qPush2 (xs := List.replicate m ME.zero) (a := some ⟨gl, 0, none⟩) (cap := m) 1 2 rfl rfl (by decide) (fun W hW _ => ⟨ents_zeros (by omega) (hW 3 _ (by decide) rfl), fun x hx => by rw [List.eq_of_mem_replicate hx]; exact MT.in_zero W⟩) (by simp; omega) (by rw [HE.out]; omega)
        simp only [List.length_replicate] at hps
        refine hps.mono ?_
        clear hps
        rintro e w4 ⟨k, err, ys, rfl, hR, hp, hL⟩
        obtain ⟨rfl, rfl⟩ := hR.all (fun p hp => by simp at hp; rw [hp.2]; exact zero_ok) (by rw [HE.out]; simp; omega)
        have HL4 := Lib.hid hL
        simp only [List.set_cons_succ, List.set_cons_zero] at HL4
        have HYS : Hid ((es ++ ys).length = min (n + m) 4096) := by
          have h := congrArg List.length hp
          have h' := HE.out
          simp at h
          unfold Hid
          rw [List.length_append]
          omega
        have HSS : Hid (∀ e ∈ (es ++ ys).map ME.plain, e.sync = 0) := by
          intro e he
          rw [List.map_append, List.mem_append] at he
          rcases he with he | he
          · exact HS.out e he
          · rw [hp] at he
            have h2 := List.mem_of_mem_take he
            simp at h2
            rw [h2.2]; rfl
        clear hL hR hp HE HS
        go_wp2_with fail
        refine (num13 _ _).mono ?_
        rintro e w5 ⟨rfl, rfl⟩
        go_wp2_with fail
        go_roundw
        case rel => exact ⟨n + m, es ++ ys, _, by go_num, by omega, HYS, HSS, HL4⟩
        case measure => simp [intOf]; omega
      · have hc' : ¬ (m : Int) ≤ 4096 - (n : Int) := by omega
        have hcn : ((4096 : Int) - (n : Int)).toNat = 4096 - n := by omega
        go_wp2_with fail
        have hps := HL.out.qPush2 (xs := List.replicate (4096 - n) ME.zero) (a := some ⟨gl, 0, none⟩) (cap := m) 1 2 rfl rfl (by decide) (fun W hW _ => ⟨ents_zeros (by omega) (hW 3 _ (by decide) rfl), fun x hx => by rw [List.eq_of_mem_replicate hx]; exact MT.in_zero W⟩) (by simp; omega) (by rw [HE.out]; omega)
        simp only [List.length_replicate] at hps
        refine hps.mono ?_
        clear hps
        rintro e w4 ⟨k, err, ys, rfl, hR, hp, hL⟩
        obtain ⟨rfl, rfl⟩ := hR.all (fun p hp => by simp at hp; rw [hp.2]; exact zero_ok) (by rw [HE.out]; simp; omega)
        have HL4 := Lib.hid hL
        simp only [List.set_cons_succ, List.set_cons_zero] at HL4
        have HYS : Hid ((es ++ ys).length = min (n + m) 4096) := by
          have h := congrArg List.length hp
          have h' := HE.out
          simp at h
          unfold Hid
          rw [List.length_append]
          omega
        have HSS : Hid (∀ e ∈ (es ++ ys).map ME.plain, e.sync = 0) := by
          intro e he
          rw [List.map_append, List.mem_append] at he
          rcases he with he | he
          · exact HS.out e he
          · rw [hp] at he
            have h2 := List.mem_of_mem_take he
            simp at h2
            rw [h2.2]; rfl
        clear hL hR hp HE HS
        go_wp2_with fail
        refine (num13 _ _).mono ?_
        rintro e w5 ⟨rfl, rfl⟩
        go_wp2_with fail
        go_roundw
        case rel => exact ⟨n + m, es ++ ys, _, by go_num, by omega, HYS, HSS, HL4⟩
        case measure => simp [intOf]; omega
    · have hlt' : ¬ (n : Int) < 4096 := by omega
      obtain ⟨x0, x1, x2, x3, x4, x5, x6, _, z1, _, _⟩ := HL.out.c7 0 rfl
      have HEL : Hid (es.length = 4096) := by have := HE.out; unfold Hid; omega
      go_wp2_with fail
      refine ((HL.out.alloc _ _).qPush2 (xs := [x]) 1 2 rfl rfl (by decide) (fun W hW ht => ⟨ents_box rfl (hW 4 _ (by decide) rfl), fun y hy => by simp at hy; subst hy; exact HIN.out W ht⟩) (by simp) (by rw [HEL.out]; omega)).mono ?_
      rintro e w4 ⟨k, err, ys, rfl, hR, hp, hL⟩
      rw [HEL.out] at hR
      clear x0 x1 x2 x3 x4 x5 x6 z1
      by_cases hok : x.plain.Ok
      · obtain ⟨rfl, rfl⟩ := hR.full hok
        obtain rfl : ys = [] := by simpa using hp
        have HL4 := Lib.hid hL
        simp only [List.nil_append, List.cons_append, List.set_cons_succ, List.set_cons_zero, List.map_nil, List.append_nil] at HL4
        clear hL hR hp HL
        go_wp2_with fail
        refine (num13 _ _).mono ?_
        rintro e wn ⟨rfl, rfl⟩
        obtain ⟨x0, x1, x2, x3, x4, x5, x6, _, z1, _, _⟩ := HL4.out.c7 0 rfl
        go_wp2_with fail
        refine (HRX.out _ HL4.out.tch).mono ?_
        rintro e w5 ⟨cc, rfl, hcc, ht⟩
        obtain rfl : cc = true := hcc.2 hok
        have HL5 := Lib.hid (HL4.out.touch ht)
        clear hcc ht x0 x1 x2 x3 x4 x5 x6 z1 hok HL4
        go_wp2_with fail
        refine (of13 _ _ _).mono ?_
        rintro e w6 ⟨rfl, ht⟩
        have HL6 := Lib.hid (HL5.out.touch ht)
        clear ht HL5
        go_wp2_with fail
        refine (of13 _ _ _).mono ?_
        rintro e w7 ⟨rfl, ht⟩
        have HL7 := Lib.hid (HL6.out.touch ht)
        clear ht HL6
        go_wp2_with fail
        refine ((HL7.out.alloc _ _).qPush2 (xs := [ofE 1 1, ofE (-1) 1]) 1 2 rfl rfl (by decide) (fun W hW _ => ⟨ents_box rfl (hW 5 _ (by decide) rfl), fun x hx => by simp [ofE] at hx; rcases hx with rfl | rfl <;> exact MT.in_zero W⟩) (by decide) (by rw [HEL.out]; omega)).mono ?_
        rintro e w8 ⟨k, err, ys, rfl, hR, hp, hL⟩
        rw [HEL.out] at hR
        obtain ⟨rfl, rfl⟩ := hR.full (pOf_ok (by decide) (by decide))
        obtain rfl : ys = [] := by simpa using hp
        have HL8 := Lib.hid hL
        simp only [List.nil_append, List.cons_append, List.set_cons_succ, List.set_cons_zero, List.map_nil, List.append_nil] at HL8
        clear hL hR hp HL7
        go_wp2_with fail
        refine (num13 _ _).mono ?_
        rintro e wn ⟨rfl, rfl⟩
        go_wp2_with fail
        refine (HL8.out.qDrop 1 rfl 5 (by rw [HEL.out]; omega)).mono ?_
        rintro e w9 (⟨xd, _, hx, rfl, hL⟩ | ⟨hn, _⟩)
        rotate_left
        · exact absurd ⟨by decide, by rw [HEL.out]; decide⟩ hn
        have HL9 := Lib.hid hL
        simp only [List.set_cons_succ, List.set_cons_zero] at HL9
        have HL5' : Hid ((es.eraseIdx (5 : Int).toNat).length = 4095) := by unfold Hid; rw [List.length_eraseIdx_of_lt (by rw [HEL.out]; decide), HEL.out]
        have HS5 : Hid (∀ e ∈ (es.eraseIdx (5 : Int).toNat).map ME.plain, e.sync = 0) := fun e he => by
          obtain ⟨y, hy, rfl⟩ := List.mem_map.1 he
          exact HS.out _ (List.mem_map_of_mem (List.mem_of_mem_eraseIdx hy))
        generalize es.eraseIdx (5 : Int).toNat = fs at HL9 HL5' HS5
        clear hL hx HL8 HS HEL HE
        simp only [ent_eq]
        go_wp2_with fail
        refine (of13 _ _ _).mono ?_
        rintro e w10 ⟨rfl, ht⟩
        have HL10 := Lib.hid (HL9.out.touch ht)
        clear ht HL9
        go_wp2_with fail
        refine (of13 _ _ _).mono ?_
        rintro e w11 ⟨rfl, ht⟩
        have HL11 := Lib.hid (HL10.out.touch ht)
        clear ht HL10
        go_wp2_with fail
        refine ((HL11.out.alloc _ _).qPush2 (xs := [ofE 1 1, ofE 2 2]) 1 2 rfl rfl (by decide) (fun W hW _ => ⟨ents_box rfl (hW 6 _ (by decide) rfl), fun x hx => by simp [ofE] at hx; rcases hx with rfl | rfl <;> exact MT.in_zero W⟩) (by decide) (by rw [HL5'.out]; omega)).mono ?_
        rintro e w12 ⟨k, err, ys, rfl, hR, hp, hL⟩
        rw [HL5'.out] at hR
        obtain ⟨rfl, rfl⟩ := hR.one (pOf_ok (by decide) (by decide)) (pOf_ok (by decide) (by decide))
        have HL12 := Lib.hid hL
        simp only [List.nil_append, List.cons_append, List.set_cons_succ, List.set_cons_zero] at HL12
        have HM : Hid ((fs ++ ys).map ME.plain = fs.map ME.plain ++ [pOf 1 1]) := by unfold Hid; rw [List.map_append, hp]; rfl
        have HN : Hid (((fs ++ ys).length : Int) = 4096) := by
          have := congrArg List.length HM.out
          have h2 := HL5'.out
          simp at this
          unfold Hid
          rw [List.length_append]
          omega
        generalize fs ++ ys = gs at HL12 HM HN
        clear hL hR hp HL11
        go_wp2_with fail
        refine (num13 _ _).mono ?_
        rintro e wn ⟨rfl, rfl⟩
        go_wp2_with fail
        refine (Len_q w12 g _ (HL12.out.qAt 1 rfl)).mono ?_
        rintro e w' ⟨rfl, rfl⟩
        rw [HN.out]
        go_wp2_with fail
        refine (Find_q w12 g _ 1 (HL12.out.qAt 1 rfl)).mono ?_
        rintro e w13 ⟨r, rfl, hr, ht⟩
        rw [HM.out] at hr
        obtain rfl := hr.unique (idx_last (fun e he => by rw [HS5.out e he]; decide) rfl)
        have HL13 := Lib.hid (HL12.out.touch ht)
        clear hr ht HL12
        rw [List.length_map, HL5'.out]
        go_wp2_with fail
        refine (Find_q w13 g _ 2 (HL13.out.qAt 1 rfl)).mono ?_
        rintro e w14 ⟨r, rfl, hr, ht⟩
        rw [HM.out] at hr
        obtain rfl := hr.unique (idx_none (fun e he => by
          rcases List.mem_append.1 he with he | he
          · rw [HS5.out e he]; decide
          · simp at he; rw [he]; decide))
        have HL14 := Lib.hid (HL13.out.touch ht)
        clear hr ht HL13
        go_wp2_with fail
        refine (works13 _).mono ?_
        rintro e w15 ⟨rfl, ht⟩
        have HT2 := Lib.hid (HL14.out.tch.trans' ht)
        clear ht HL14
        go_wp2
        go_ret
        exact ⟨rfl, HT2.out.below⟩
      · obtain ⟨rfl, rfl⟩ := hR.bad hok
        obtain rfl : ys = [] := by simpa using hp
        have HL4 := Lib.hid hL
        simp only [List.nil_append, List.cons_append, List.set_cons_succ, List.set_cons_zero, List.map_nil, List.append_nil] at HL4
        clear hL hR hp HL
        go_wp2_with fail
        refine (num13 _ _).mono ?_
        rintro e wn ⟨rfl, rfl⟩
        obtain ⟨x0, x1, x2, x3, x4, x5, x6, _, z1, _, _⟩ := HL4.out.c7 0 rfl
        go_wp2_with fail
        refine (HRX.out _ HL4.out.tch).mono ?_
        rintro e w5 ⟨cc, rfl, hcc, ht⟩
        obtain rfl : cc = false := by cases cc with | false => rfl | true => exact absurd (hcc.1 rfl) hok
        have HL5 := Lib.hid (HL4.out.touch ht)
        clear hcc ht x0 x1 x2 x3 x4 x5 x6 z1 hok HL4
        go_wp2_with fail
        refine (of13 _ _ _).mono ?_
        rintro e w6 ⟨rfl, ht⟩
        have HL6 := Lib.hid (HL5.out.touch ht)
        clear ht HL5
        go_wp2_with fail
        refine (of13 _ _ _).mono ?_
        rintro e w7 ⟨rfl, ht⟩
        have HL7 := Lib.hid (HL6.out.touch ht)
        clear ht HL6
        go_wp2_with fail
        refine ((HL7.out.alloc _ _).qPush2 (xs := [ofE 1 1, ofE (-1) 1]) 1 2 rfl rfl (by decide) (fun W hW _ => ⟨ents_box rfl (hW 5 _ (by decide) rfl), fun x hx => by simp [ofE] at hx; rcases hx with rfl | rfl <;> exact MT.in_zero W⟩) (by decide) (by rw [HEL.out]; omega)).mono ?_
        rintro e w8 ⟨k, err, ys, rfl, hR, hp, hL⟩
        rw [HEL.out] at hR
        obtain ⟨rfl, rfl⟩ := hR.full (pOf_ok (by decide) (by decide))
        obtain rfl : ys = [] := by simpa using hp
        have HL8 := Lib.hid hL
        simp only [List.nil_append, List.cons_append, List.set_cons_succ, List.set_cons_zero, List.map_nil, List.append_nil] at HL8
        clear hL hR hp HL7
        go_wp2_with fail
        refine (num13 _ _).mono ?_
        rintro e wn ⟨rfl, rfl⟩
        go_wp2_with fail
        refine (HL8.out.qDrop 1 rfl 5 (by rw [HEL.out]; omega)).mono ?_
        rintro e w9 (⟨xd, _, hx, rfl, hL⟩ | ⟨hn, _⟩)
        rotate_left
        · exact absurd ⟨by decide, by rw [HEL.out]; decide⟩ hn
        have HL9 := Lib.hid hL
        simp only [List.set_cons_succ, List.set_cons_zero] at HL9
        have HL5' : Hid ((es.eraseIdx (5 : Int).toNat).length = 4095) := by unfold Hid; rw [List.length_eraseIdx_of_lt (by rw [HEL.out]; decide), HEL.out]
        have HS5 : Hid (∀ e ∈ (es.eraseIdx (5 : Int).toNat).map ME.plain, e.sync = 0) := fun e he => by
          obtain ⟨y, hy, rfl⟩ := List.mem_map.1 he
          exact HS.out _ (List.mem_map_of_mem (List.mem_of_mem_eraseIdx hy))
        generalize es.eraseIdx (5 : Int).toNat = fs at HL9 HL5' HS5
        clear hL hx HL8 HS HEL HE
        simp only [ent_eq]
        go_wp2_with fail
        refine (of13 _ _ _).mono ?_
        rintro e w10 ⟨rfl, ht⟩
        have HL10 := Lib.hid (HL9.out.touch ht)
        clear ht HL9
        go_wp2_with fail
        refine (of13 _ _ _).mono ?_
        rintro e w11 ⟨rfl, ht⟩
        have HL11 := Lib.hid (HL10.out.touch ht)
        clear ht HL10
        go_wp2_with fail
        refine ((HL11.out.alloc _ _).qPush2 (xs := [ofE 1 1, ofE 2 2]) 1 2 rfl rfl (by decide) (fun W hW _ => ⟨ents_box rfl (hW 6 _ (by decide) rfl), fun x hx => by simp [ofE] at hx; rcases hx with rfl | rfl <;> exact MT.in_zero W⟩) (by decide) (by rw [HL5'.out]; omega)).mono ?_
        rintro e w12 ⟨k, err, ys, rfl, hR, hp, hL⟩
        rw [HL5'.out] at hR
        obtain ⟨rfl, rfl⟩ := hR.one (pOf_ok (by decide) (by decide)) (pOf_ok (by decide) (by decide))
        have HL12 := Lib.hid hL
        simp only [List.nil_append, List.cons_append, List.set_cons_succ, List.set_cons_zero] at HL12
        have HM : Hid ((fs ++ ys).map ME.plain = fs.map ME.plain ++ [pOf 1 1]) := by unfold Hid; rw [List.map_append, hp]; rfl
        have HN : Hid (((fs ++ ys).length : Int) = 4096) := by
          have := congrArg List.length HM.out
          have h2 := HL5'.out
          simp at this
          unfold Hid
          rw [List.length_append]
          omega
        generalize fs ++ ys = gs at HL12 HM HN
        clear hL hR hp HL11
        go_wp2_with fail
        refine (num13 _ _).mono ?_
        rintro e wn ⟨rfl, rfl⟩
        go_wp2_with fail
        refine (Len_q w12 g _ (HL12.out.qAt 1 rfl)).mono ?_
        rintro e w' ⟨rfl, rfl⟩
        rw [HN.out]
        go_wp2_with fail
        refine (Find_q w12 g _ 1 (HL12.out.qAt 1 rfl)).mono ?_
        rintro e w13 ⟨r, rfl, hr, ht⟩
        rw [HM.out] at hr
        obtain rfl := hr.unique (idx_last (fun e he => by rw [HS5.out e he]; decide) rfl)
        have HL13 := Lib.hid (HL12.out.touch ht)
        clear hr ht HL12
        rw [List.length_map, HL5'.out]
        go_wp2_with fail
        refine (Find_q w13 g _ 2 (HL13.out.qAt 1 rfl)).mono ?_
        rintro e w14 ⟨r, rfl, hr, ht⟩
        rw [HM.out] at hr
        obtain rfl := hr.unique (idx_none (fun e he => by
          rcases List.mem_append.1 he with he | he
          · rw [HS5.out e he]; decide
          · simp at he; rw [he]; decide))
        have HL14 := Lib.hid (HL13.out.touch ht)
        clear hr ht HL13
        go_wp2_with fail
        refine (works13 _).mono ?_
        rintro e w15 ⟨rfl, ht⟩
        have HT2 := Lib.hid (HL14.out.tch.trans' ht)
        clear ht HL14
        go_wp2
        go_ret
        exact ⟨rfl, HT2.out.below⟩
theorem queueFull_any (x : ME) (z : Int) (w : World) (hx : x.v.In w) (hnx : x.v.nodes ≤ 1048576) :
    Calls Try.prog 3 #[x.val, .int .i64 z] w fun e w' => e = .returned (.bool true) ∧ Below w.heap.size w w' := by
  by_cases h : z < 1 ∨ 5000 < z
  · exact queueFull_out x z w hx hnx h
  · by_cases hb : x.v.nodes ≤ 256
    · obtain ⟨m, rfl⟩ := Int.eq_ofNat_of_zero_le (show 0 ≤ z by omega)
      exact queueFull_in x m w hx (by omega) (by omega) hb
    · exact queueFull_big x z w hx hnx (by omega) (by omega) hb
end Go.Proofs.Ytihmbgdkllmkaaa

/-
  Layer 15 (cond.go): none, lock, fired, made, New, Lock, Unlock, Fired, Fire, Len, Cells.
-/
namespace Go.Proofs.Ytihmbgdkllmkaaa
open Go.RowKit Go.Shelf
set_option maxRecDepth 100000
set_option linter.unusedVariables false
set_option linter.unusedSimpArgs false

/-- A condition: its two cells, its queue. -/
def CondAt (w : World) (c : Nat) (l f : Int) (q : Nat) : Prop := Blk w c 90 #[.int .i64 l, .int .i64 f, .pointer (some ⟨q, 0, none⟩)]
theorem CondAt.touch {w w' : World} {c : Nat} {l f : Int} {q : Nat} (h : CondAt w c l f q) (ht : Touch [] w w') : CondAt w' c l f q := Blk.touch h ht (by simp)
theorem CondAt.cells {w : World} {c : Nat} {l f : Int} {q : Nat} (h : CondAt w c l f q) : w.cell? ⟨c, 0, none⟩ = some (.int .i64 l) ∧ w.cell? ⟨c, 1, none⟩ = some (.int .i64 f) ∧ w.cell? ⟨c, 2, none⟩ = some (.pointer (some ⟨q, 0, none⟩)) ∧ c < w.heap.size ∧ c < w.heap.size + 1 := by
  have hl := Blk.lt h
  exact ⟨Blk.cell h 0, Blk.cell h 1, Blk.cell h 2, hl, by omega⟩
theorem Led.condAt {T : List Nat} {w0 w : World} {l : List Thing} {c : Nat} {a f : Int} {q : Nat} (h : Led T w0 w l) (i : Nat) (hi : l[i]? = some (Proofs.Ytihmbgdkllmkaaa.box c 90 #[.int .i64 a, .int .i64 f, .pointer (some ⟨q, 0, none⟩)])) : CondAt w c a f q := h.box i hi

section
variable (w : World) (c : Nat) (l f : Int) (q : Nat) (hc : CondAt w c l f q)
include hc
theorem cnone_no : Calls Try.prog 79 #[.pointer (some ⟨c, 0, none⟩)] w fun e w' => e = .returned (.bool false) ∧ w = w' := by
  obtain ⟨c0, c1, c2, hl, _⟩ := hc.cells
  clear hc
  go_enter Try.func79, Try.ntmps79
  go_wp2
  go_ret
  exact ⟨rfl, rfl⟩
end
theorem cnone_nil (w : World) : Calls Try.prog 79 #[.pointer none] w fun e w' => e = .returned (.bool true) ∧ w = w' := by
  go_enter Try.func79, Try.ntmps79
  go_wp2
  go_ret
  exact ⟨rfl, rfl⟩
theorem lock_c (l f : Int) (w : World) : Calls Try.prog 84 #[.agg #[.int .i64 l, .int .i64 f]] w fun e w' => e = .returned (.int .i64 l) ∧ Touch [] w w' := by
  have HT := Lib.hid ((Touch.refl [] w).alloc (.cells #[.int .i64 l, .int .i64 f] 88))
  go_enter Try.func84, Try.ntmps84
  go_wp2
  go_ret
  exact ⟨rfl, HT.out⟩
theorem fired_c (l f : Int) (w : World) : Calls Try.prog 81 #[.agg #[.int .i64 l, .int .i64 f]] w fun e w' => e = .returned (.int .i64 f) ∧ Touch [] w w' := by
  have HT := Lib.hid ((Touch.refl [] w).alloc (.cells #[.int .i64 l, .int .i64 f] 88))
  go_enter Try.func81, Try.ntmps81
  go_wp2
  go_ret
  exact ⟨rfl, HT.out⟩
section
variable (w : World) (c : Nat) (l f : Int) (q : Nat) (hc : CondAt w c l f q) (p : Option Addr) (R : World → Prop)
include hc
theorem Lock_c (d : Bool) (er : Nat) (h : ∀ W, Touch [] w W → Calls Try.prog 83 #[.pointer p, .int .i64 l] W fun e w' => e = .returned (.tuple #[.bool d, .int .i64 (er : Int)]) ∧ R w') :
    Calls Try.prog 44 #[.pointer (some ⟨c, 0, none⟩), .pointer p] w fun e w' => e = .returned (.tuple #[.bool d, .int .i64 (er : Int)]) ∧ R w' := by
  obtain ⟨c0, c1, c2, hl, _⟩ := hc.cells
  have HC := Lib.hid hc
  have H := Lib.hid h
  clear hc h
  go_enter Try.func44, Try.ntmps44
  go_wp2_with fail
  refine (cnone_no _ _ _ _ _ HC.out).mono ?_
  rintro e w' ⟨rfl, rfl⟩
  go_wp2_with fail
  refine (lock_c _ _ _).mono ?_
  rintro e w1 ⟨rfl, ht⟩
  have H1 := Lib.hid (H.out w1 ht)
  clear ht H
  go_wp2_with fail
  refine H1.out.mono ?_
  rintro e w2 ⟨rfl, hr⟩
  have HR := Lib.hid hr
  clear hr
  go_wp2
  go_ret2
  exact ⟨rfl, HR.out⟩
theorem Unlock_c (er : Nat) (h : ∀ W, Touch [] w W → Calls Try.prog 85 #[.pointer p, .int .i64 l] W fun e w' => e = .returned (.int .i64 (er : Int)) ∧ R w') :
    Calls Try.prog 46 #[.pointer (some ⟨c, 0, none⟩), .pointer p] w fun e w' => e = .returned (.int .i64 (er : Int)) ∧ R w' := by
  obtain ⟨c0, c1, c2, hl, _⟩ := hc.cells
  have HC := Lib.hid hc
  have H := Lib.hid h
  clear hc h
  go_enter Try.func46, Try.ntmps46
  go_wp2_with fail
  refine (cnone_no _ _ _ _ _ HC.out).mono ?_
  rintro e w' ⟨rfl, rfl⟩
  go_wp2_with fail
  refine (lock_c _ _ _).mono ?_
  rintro e w1 ⟨rfl, ht⟩
  have H1 := Lib.hid (H.out w1 ht)
  clear ht H
  go_wp2_with fail
  refine H1.out.mono ?_
  rintro e w2 ⟨rfl, hr⟩
  have HR := Lib.hid hr
  clear hr
  go_wp2
  go_ret
  exact ⟨rfl, HR.out⟩
/-- What Fired tells. -/
theorem Fired_c (v er : Nat) (d : Bool) (hd : d = (decide (er = 0) && decide (v ≠ 0))) (h : ∀ W, Touch [] w W → Calls Try.prog 82 #[.pointer p, .int .i64 f] W fun e w' => e = .returned (.tuple #[.int .u64 (v : Int), .int .i64 (er : Int)]) ∧ R w') :
    Calls Try.prog 41 #[.pointer (some ⟨c, 0, none⟩), .pointer p] w fun e w' => e = .returned (.tuple #[.bool d, .int .i64 (er : Int)]) ∧ R w' := by
  obtain ⟨c0, c1, c2, hl, _⟩ := hc.cells
  have HC := Lib.hid hc
  have H := Lib.hid h
  have eg := enters_of Try.func82 (by kernel_rfl) rfl
  have HD := Lib.hid hd
  clear hc h hd
  by_cases he : er = 0
  · subst he
    by_cases hv : v = 0
    · subst hv
      obtain rfl : d = false := by rw [HD.out]; rfl
      go_enter Try.func41, Try.ntmps41
      go_wp2_with fail
      refine (cnone_no _ _ _ _ _ HC.out).mono ?_
      rintro e w' ⟨rfl, rfl⟩
      go_wp2_with fail
      refine (fired_c _ _ _).mono ?_
      rintro e w1 ⟨rfl, ht⟩
      have H1 := Lib.hid (H.out w1 ht)
      clear ht H
      go_wp2_with fail
      refine H1.out.mono ?_
      rintro e w2 ⟨rfl, hr⟩
      have HR := Lib.hid hr
      clear hr
      go_wp2
      go_ret2
      exact ⟨rfl, HR.out⟩
    · obtain rfl : d = true := by rw [HD.out]; simp [hv]
      have hv' : ((v : Int) != 0) = true := by simp; omega
      go_enter Try.func41, Try.ntmps41
      go_wp2_with fail
      refine (cnone_no _ _ _ _ _ HC.out).mono ?_
      rintro e w' ⟨rfl, rfl⟩
      go_wp2_with fail
      refine (fired_c _ _ _).mono ?_
      rintro e w1 ⟨rfl, ht⟩
      have H1 := Lib.hid (H.out w1 ht)
      clear ht H
      go_wp2_with fail
      refine H1.out.mono ?_
      rintro e w2 ⟨rfl, hr⟩
      have HR := Lib.hid hr
      clear hr
      go_wp2
      go_ret2
      exact ⟨rfl, HR.out⟩
  · obtain rfl : d = false := by rw [HD.out]; simp [he]
    have he' : ((er : Int) == 0) = false := by simp; omega
    go_enter Try.func41, Try.ntmps41
    go_wp2_with fail
    refine (cnone_no _ _ _ _ _ HC.out).mono ?_
    rintro e w' ⟨rfl, rfl⟩
    go_wp2_with fail
    refine (fired_c _ _ _).mono ?_
    rintro e w1 ⟨rfl, ht⟩
    have H1 := Lib.hid (H.out w1 ht)
    clear ht H
    go_wp2_with fail
    refine H1.out.mono ?_
    rintro e w2 ⟨rfl, hr⟩
    have HR := Lib.hid hr
    clear hr
    go_wp2
    go_ret2
    exact ⟨rfl, HR.out⟩
theorem Fire_c (v er : Nat) (d : Bool) (fe : Nat) (hfe : fe = if er = 0 ∧ d = false then 150 else er) (h : ∀ W, Touch [] w W → Calls Try.prog 80 #[.pointer p, .int .i64 f, .int .u64 0, .int .u64 1] W fun e w' => e = .returned (.tuple #[.int .u64 (v : Int), .bool d, .int .i64 (er : Int)]) ∧ R w') :
    Calls Try.prog 37 #[.pointer (some ⟨c, 0, none⟩), .pointer p] w fun e w' => e = .returned (.int .i64 (fe : Int)) ∧ R w' := by
  obtain ⟨c0, c1, c2, hl, _⟩ := hc.cells
  have HC := Lib.hid hc
  have H := Lib.hid h
  have eg := enters_of Try.func80 (by kernel_rfl) rfl
  have HD := Lib.hid hfe
  clear hc h hfe
  by_cases he : er = 0
  · subst he
    cases d with
    | true =>
      obtain rfl : fe = 0 := by rw [HD.out]; rfl
      go_enter Try.func37, Try.ntmps37
      go_wp2
      refine wp_scope_fwd 0 rfl ?_
      go_wp2_with fail
      refine (cnone_no _ _ _ _ _ HC.out).mono ?_
      rintro e w' ⟨rfl, rfl⟩
      go_wp2_with fail
      refine (fired_c _ _ _).mono ?_
      rintro e w1 ⟨rfl, ht⟩
      have H1 := Lib.hid (H.out w1 ht)
      clear ht H
      go_wp2_with fail
      refine H1.out.mono ?_
      rintro e w2 ⟨rfl, hr⟩
      have HR := Lib.hid hr
      clear hr
      go_wp2
      go_step3
      go_wp2
      refine jump_ret ?_
      go_ret
      exact ⟨rfl, HR.out⟩
    | false =>
      obtain rfl : fe = 150 := by rw [HD.out]; rfl
      go_enter Try.func37, Try.ntmps37
      go_wp2
      refine wp_scope_fwd 0 rfl ?_
      go_wp2_with fail
      refine (cnone_no _ _ _ _ _ HC.out).mono ?_
      rintro e w' ⟨rfl, rfl⟩
      go_wp2_with fail
      refine (fired_c _ _ _).mono ?_
      rintro e w1 ⟨rfl, ht⟩
      have H1 := Lib.hid (H.out w1 ht)
      clear ht H
      go_wp2_with fail
      refine H1.out.mono ?_
      rintro e w2 ⟨rfl, hr⟩
      have HR := Lib.hid hr
      clear hr
      go_wp2
      go_step3
      go_wp2
      refine jump_ret ?_
      go_ret
      exact ⟨rfl, HR.out⟩
  · obtain rfl : fe = er := by rw [HD.out]; simp [he]
    have he' : ((fe : Int) == 0) = false := by simp; omega
    go_enter Try.func37, Try.ntmps37
    go_wp2
    refine wp_scope_fwd 0 rfl ?_
    go_wp2_with fail
    refine (cnone_no _ _ _ _ _ HC.out).mono ?_
    rintro e w' ⟨rfl, rfl⟩
    go_wp2_with fail
    refine (fired_c _ _ _).mono ?_
    rintro e w1 ⟨rfl, ht⟩
    have H1 := Lib.hid (H.out w1 ht)
    clear ht H
    go_wp2_with fail
    refine H1.out.mono ?_
    rintro e w2 ⟨rfl, hr⟩
    have HR := Lib.hid hr
    clear hr
    go_wp2
    go_step3
    go_wp2
    refine jump_ret ?_
    go_ret
    exact ⟨rfl, HR.out⟩
theorem Len_c (es : List ME) (hq : QAt w q es) : Calls Try.prog 42 #[.pointer (some ⟨c, 0, none⟩)] w fun e w' => e = .returned (.int .i64 (es.length : Int)) ∧ w = w' := by
  obtain ⟨c0, c1, c2, hl, _⟩ := hc.cells
  have HC := Lib.hid hc
  have HQ := Lib.hid hq
  clear hc hq
  go_enter Try.func42, Try.ntmps42
  go_wp2_with fail
  refine (cnone_no _ _ _ _ _ HC.out).mono ?_
  rintro e w' ⟨rfl, rfl⟩
  go_wp2_with fail
  refine (Len_q _ _ _ HQ.out).mono ?_
  rintro e w' ⟨rfl, rfl⟩
  go_wp2
  go_ret
  exact ⟨rfl, rfl⟩
theorem Cells_c : Calls Try.prog 45 #[.pointer (some ⟨c, 0, none⟩)] w fun e w' => e = .returned (.tuple #[.int .i64 l, .int .i64 f]) ∧ Touch [] w w' := by
  obtain ⟨c0, c1, c2, hl, _⟩ := hc.cells
  have HC := Lib.hid hc
  clear hc
  go_enter Try.func45, Try.ntmps45
  go_wp2_with fail
  refine (cnone_no _ _ _ _ _ HC.out).mono ?_
  rintro e w' ⟨rfl, rfl⟩
  go_wp2_with fail
  have HTm := Lib.hid ((Touch.refl [] w).drew)
  go_region_held3 (fun w' => w'.cell? ⟨c, 0, none⟩ = some (.int .i64 l) ∧ w'.cell? ⟨c, 1, none⟩ = some (.int .i64 f)) (go_keep)
    (first
    | (go_at_call 84; refine (lock_c _ _ _).mono ?_; rintro en wn ⟨rfl, ht⟩; have HTm := Lib.hid (HTm.out.trans' ht); clear ht c0 c1; (obtain ⟨c0, c1, _, _, _⟩ := (HC.out.touch HTm.out).cells))
    | (go_at_call 81; refine (fired_c _ _ _).mono ?_; rintro en wn ⟨rfl, ht⟩; have HTm := Lib.hid (HTm.out.trans' ht); clear ht c0 c1; (obtain ⟨c0, c1, _, _, _⟩ := (HC.out.touch HTm.out).cells)))
  go_wp2
  go_ret2
  exact ⟨rfl, HTm.out⟩
end
theorem build_cond (q : Option Addr) (w : World) (h : Try.prog.built 90 [(1, .pointer q)] = some #[.int .i64 0, .int .i64 0, .pointer q]) : (Instr.build 90 #[(1, .pointer q)]).run Try.prog w = .ok (.agg #[.int .i64 0, .int .i64 0, .pointer q]) w := run_build w 90 _ _ h
attribute [local go_sem] build_cond
set_option maxHeartbeats 1000000 in
theorem made_c (w : World) (q : Option Addr) (b o cap : Nat) (l f : Int) (h0 : w.cell? ⟨b, o, none⟩ = some (.int .i64 l)) (h1 : w.cell? ⟨b, o + 1, none⟩ = some (.int .i64 f)) :
    Calls Try.prog 78 #[.pointer q, .slice (some ⟨b, o, none⟩) 2 cap] w fun e w' => e = .returned (.pointer (some ⟨w.heap.size, 0, none⟩)) ∧ Blk w' w.heap.size 90 #[.int .i64 l, .int .i64 f, .pointer q] ∧ Touch [] w w' := by
  have hbc : ∀ W, (Instr.build 90 #[(1, .pointer q)]).run Try.prog W = .ok (.agg #[.int .i64 0, .int .i64 0, .pointer q]) W := fun W => build_cond q W (by cases q <;> rfl)
  obtain ⟨w2, hcp, hbk, hbl⟩ : ∃ w2, (Builtin.copy_ #[45, 45] 3 #[.slice (some ⟨w.heap.size, 0, none⟩) 2 2, .slice (some ⟨b, o, none⟩) 2 cap]).run Try.prog (w.alloc (.cells #[.int .i64 0, .int .i64 0, .pointer q] 90)) = .ok (.int .i64 2) w2 ∧
      Blk w2 w.heap.size 90 #[.int .i64 l, .int .i64 f, .pointer q] ∧ Below w.heap.size w w2 := by
    have hb : Blk (w.alloc (.cells #[.int .i64 0, .int .i64 0, .pointer q] 90)) w.heap.size 90 #[.int .i64 0, .int .i64 0, .pointer q] := Blk.new w _ _
    have hT := (Touch.refl [] w).alloc (.cells #[.int .i64 0, .int .i64 0, .pointer q] 90)
    have hr := run_copy_row (P := Try.prog) (w.alloc (.cells #[.int .i64 0, .int .i64 0, .pointer q] 90)) 45 45 3 3 w.heap.size 0 2 2 ⟨b, o, none⟩ 2 cap _ _ [.int .i64 l, .int .i64 f] Try.underlying45 (by kernel_rfl) hb rfl (fun j v hj => by
      match j, hj with
      | 0, hj => simp at hj; subst hj; rw [Addr.add_lit]; exact hT.cellOf h0
      | 1, hj => simp at hj; subst hj; rw [Addr.add_lit]; exact hT.cellOf h1
      | j + 2, hj => simp at hj) (by simp) (by simp [Value.oneCell'])
    refine ⟨_, hr, ?_, below_setRow hT.below (Nat.le_refl _) _⟩
    exact setRow_heap _ _ _ _ _ _ hb
  have HB := Lib.hid hbk
  have HL := Lib.hid hbl
  clear hbk hbl
  go_enter Try.func78, Try.ntmps78
  go_wp2
  go_ret
  exact ⟨rfl, HB.out, Touch.of_below HL.out []⟩
/-- New, in a ledger with an arena. -/
theorem Led.cNew {T : List Nat} {w0 w : World} {l : List Thing} {g : Nat} {s : Ar} (h : Led T w0 w l) (i : Nat) (hi : l[i]? = some (arena g s)) (hok : s.C.length + 2 ≤ s.most) :
    Calls Try.prog 35 #[.pointer (some ⟨g, 0, none⟩)] w fun e w' => ∃ q c, e = .returned (.tuple #[.pointer (some ⟨c, 0, none⟩), .int .i64 0]) ∧
      Led T w0 w' (l.set i (arena g (s.allocA 2).1) ++ [queueT q [], valsT [], Proofs.Ytihmbgdkllmkaaa.box c 90 #[.int .i64 (s.C.length : Int), .int .i64 (s.C.length + 1 : Int), .pointer (some ⟨q, 0, none⟩)]]) := by
  have hal := h.ar i hi (fun fp hI => Alloc_any w g fp s 2 hI)
  have e1 : (s.allocA 2).2.1 = s.C.length ∧ (s.allocA 2).2.2 = 0 := by unfold Ar.allocA; rw [if_neg (by omega), if_neg (by omega)]; exact ⟨rfl, rfl⟩
  rw [e1.1, e1.2] at hal
  have HA := Lib.hid hal
  have hm := (h.artAll i hi).2.2
  clear hal e1 h hi
  go_enter Try.func35, Try.ntmps35
  go_wp2
  refine wp_scope_fwd 0 rfl ?_
  go_wp2_with fail
  refine HA.out.mono ?_
  rintro e w1 ⟨rfl, hL⟩
  have HL := Lib.hid hL
  clear hL HA
  go_wp2_with fail
  refine (New_q w1 HL.out).mono ?_
  rintro e w2 ⟨q, rfl, hL⟩
  have HL2 := Lib.hid hL.vals0
  clear hL HL
  go_wp2_with fail
  refine (made_c _ _ _ _ _ (s.C.length : Int) (s.C.length + 1 : Int) (by simp) (by simp)).mono ?_
  rintro e w3 ⟨rfl, hb, ht⟩
  have HL3 : Hid (Led T w0 w3 (l.set i (arena g (s.allocA 2).1) ++ [queueT q [], valsT [], Proofs.Ytihmbgdkllmkaaa.box (w2.heap.size + 1) 90 #[.int .i64 (s.C.length : Int), .int .i64 (s.C.length + 1 : Int), .pointer (some ⟨q, 0, none⟩)]])) := by
    have h1 := (HL2.out.alloc_ (.cells #[.int .i64 (s.C.length : Int), .int .i64 (s.C.length + 1 : Int)] 3)).new (t' := Proofs.Ytihmbgdkllmkaaa.box (w2.heap.size + 1) 90 #[.int .i64 (s.C.length : Int), .int .i64 (s.C.length + 1 : Int), .pointer (some ⟨q, 0, none⟩)]) (f' := [w2.heap.size + 1]) ⟨rfl, by simpa using hb⟩ ⟨ht, fun k hk => .inr (by simp at hk; simp; omega)⟩
    unfold Hid
    simpa using h1
  clear hb ht HL2
  go_wp2
  go_step3
  go_wp2
  refine jump_ret ?_
  go_ret2
  exact ⟨q, _, rfl, by simpa using HL3.out⟩
theorem Led.cNew_full {T : List Nat} {w0 w : World} {l : List Thing} {g : Nat} {s : Ar} (h : Led T w0 w l) (i : Nat) (hi : l[i]? = some (arena g s)) (hok : ¬ s.C.length + 2 ≤ s.most) :
    Calls Try.prog 35 #[.pointer (some ⟨g, 0, none⟩)] w fun e w' => e = .returned (.tuple #[.pointer none, .int .i64 6]) ∧ Led T w0 w' (l.set i (arena g (s.allocA 2).1)) := by
  have hal := h.ar i hi (fun fp hI => Alloc_any w g fp s 2 hI)
  have hm := (h.artAll i hi).2.2
  have e1 : (s.allocA 2).2.1 = 0 ∧ (s.allocA 2).2.2 = 6 := by unfold Ar.allocA; rw [if_neg (by omega), if_pos (by omega)]; exact ⟨rfl, rfl⟩
  rw [e1.1, e1.2] at hal
  have HA := Lib.hid hal
  clear hal e1 h hi
  go_enter Try.func35, Try.ntmps35
  go_wp2
  refine wp_scope_fwd 0 rfl ?_
  go_wp2_with fail
  refine HA.out.mono ?_
  rintro e w1 ⟨rfl, hL⟩
  have HL := Lib.hid hL
  clear hL HA
  go_wp2
  go_step3
  refine ⟨rfl, ?_⟩
  go_wp2
  refine noGoto_ret' ?_
  go_ret2
  exact ⟨rfl, HL.out⟩
end Go.Proofs.Ytihmbgdkllmkaaa

/-
  Layer 15 (cond.go): Wait, Next, and all calls in a caller's ledger.
-/
namespace Go.Proofs.Ytihmbgdkllmkaaa
open Go.RowKit Go.Shelf
set_option maxRecDepth 100000
set_option linter.unusedVariables false
set_option linter.unusedSimpArgs false

/-- What Next tells and leaves. -/
def Nexted (T : List Nat) (w0 : World) (l : List Thing) (i q : Nat) (es : List ME) (e : Ending) (w' : World) : Prop :=
  (∃ x r, es = x :: r ∧ e = .returned (.tuple #[x.val, .bool true]) ∧ Led T w0 w' (l.set i (queueT q r))) ∨ (es = [] ∧ e = .returned (.tuple #[ME.zero.val, .bool false]) ∧ Led T w0 w' (l.set i (queueT q [])))
section
variable {T : List Nat} {w0 w : World} {l : List Thing} {g c q : Nat} {a f : Int} {s : Ar} {es : List ME}
theorem set_end1 {t : Thing} {m : List Thing} {i : Nat} (hi : i < l.length) : (l ++ m).set i t = l.set i t ++ m := List.set_append_left i t hi
theorem get_end2 {t1 t2 : Thing} : (l ++ [t1] ++ [t2])[l.length + 1]? = some t2 := by simp
theorem get_end1 {t1 : Thing} : (l ++ [t1])[l.length]? = some t1 := by simp
theorem Led.cLock (h : Led T w0 w l) (i j : Nat) (hi : l[i]? = some (arena g s)) (hj : l[j]? = some (Proofs.Ytihmbgdkllmkaaa.box c 90 #[.int .i64 a, .int .i64 f, .pointer (some ⟨q, 0, none⟩)])) (hn : s.L.length < 4611686018427387904) :
    Calls Try.prog 44 #[.pointer (some ⟨c, 0, none⟩), .pointer (some ⟨g, 0, none⟩)] w fun e w' => e = .returned (.tuple #[.bool (s.swap a 0 1).2.1.did, .int .i64 ((s.swap a 0 1).2.2 : Int)]) ∧ Led T w0 w' (l.set i (arena g (s.swap a 0 1).1)) :=
  Lock_c w c a f q (h.condAt j hj) _ (fun w' => Led T w0 w' (l.set i (arena g (s.swap a 0 1).1))) _ _ (fun W hW => (h.touch hW).ar i hi (fun fp hI => Try_any W g fp s hI a hn))
theorem Led.cUnlock (h : Led T w0 w l) (i j : Nat) (hi : l[i]? = some (arena g s)) (hj : l[j]? = some (Proofs.Ytihmbgdkllmkaaa.box c 90 #[.int .i64 a, .int .i64 f, .pointer (some ⟨q, 0, none⟩)])) (hn : s.L.length < 4611686018427387904) :
    Calls Try.prog 46 #[.pointer (some ⟨c, 0, none⟩), .pointer (some ⟨g, 0, none⟩)] w fun e w' => e = .returned (.int .i64 (s.freeE a : Int)) ∧ Led T w0 w' (l.set i (arena g (s.swap a 1 0).1)) :=
  Unlock_c w c a f q (h.condAt j hj) _ (fun w' => Led T w0 w' (l.set i (arena g (s.swap a 1 0).1))) _ (fun W hW => (h.touch hW).ar i hi (fun fp hI => Free_any W g fp s hI a hn))
theorem Led.cFired (h : Led T w0 w l) (i j : Nat) (hi : l[i]? = some (arena g s)) (hj : l[j]? = some (Proofs.Ytihmbgdkllmkaaa.box c 90 #[.int .i64 a, .int .i64 f, .pointer (some ⟨q, 0, none⟩)])) (hn : s.L.length < 4611686018427387904) {d : Bool} {er : Nat} {s' : Ar} (hd : d = (decide ((s.load f).2.2 = 0) && decide ((s.load f).2.1.old ≠ 0))) (he : (s.load f).2.2 = er) (hs : (s.load f).1 = s') :
    Calls Try.prog 41 #[.pointer (some ⟨c, 0, none⟩), .pointer (some ⟨g, 0, none⟩)] w fun e w' => e = .returned (.tuple #[.bool d, .int .i64 (er : Int)]) ∧ Led T w0 w' (l.set i (arena g s')) := by
  subst he hs
  exact Fired_c w c a f q (h.condAt j hj) _ (fun w' => Led T w0 w' (l.set i (arena g (s.load f).1))) _ _ _ hd (fun W hW => (h.touch hW).ar i hi (fun fp hI => Load_any W g fp s f hI hn))
theorem Led.cFire (h : Led T w0 w l) (i j : Nat) (hi : l[i]? = some (arena g s)) (hj : l[j]? = some (Proofs.Ytihmbgdkllmkaaa.box c 90 #[.int .i64 a, .int .i64 f, .pointer (some ⟨q, 0, none⟩)])) (hn : s.L.length < 4611686018427387904) {fe : Nat} {s' : Ar} (hfe : fe = if (s.swap f 0 1).2.2 = 0 ∧ (s.swap f 0 1).2.1.did = false then 150 else (s.swap f 0 1).2.2) (hs : (s.swap f 0 1).1 = s') :
    Calls Try.prog 37 #[.pointer (some ⟨c, 0, none⟩), .pointer (some ⟨g, 0, none⟩)] w fun e w' => e = .returned (.int .i64 (fe : Int)) ∧ Led T w0 w' (l.set i (arena g s')) := by
  subst hs
  exact Fire_c w c a f q (h.condAt j hj) _ (fun w' => Led T w0 w' (l.set i (arena g (s.swap f 0 1).1))) _ _ _ _ hfe (fun W hW => (h.touch hW).ar i hi (fun fp hI => Swap_any W g fp s f hI hn 0 1 wd0 wd1))
theorem Led.cLen (h : Led T w0 w l) (i j : Nat) (hi : l[i]? = some (queueT q es)) (hj : l[j]? = some (Proofs.Ytihmbgdkllmkaaa.box c 90 #[.int .i64 a, .int .i64 f, .pointer (some ⟨q, 0, none⟩)])) :
    Calls Try.prog 42 #[.pointer (some ⟨c, 0, none⟩)] w fun e w' => e = .returned (.int .i64 (es.length : Int)) ∧ w = w' := Len_c w c a f q (h.condAt j hj) es (h.qAt i hi)
set_option maxHeartbeats 1000000 in
theorem Led.cWait {vs : List MT} (x : ME) (h : Led T w0 w l) (i k j : Nat) (hi : l[i]? = some (queueT q es)) (hk : l[k]? = some (valsT vs)) (hik : i ≠ k) (hji : j ≠ i) (hjk : j ≠ k) (hj : l[j]? = some (Proofs.Ytihmbgdkllmkaaa.box c 90 #[.int .i64 a, .int .i64 f, .pointer (some ⟨q, 0, none⟩)])) (hx : ∀ W, Beside l i W → Touch T w0 W → x.v.In W) (hes : es.length ≤ 4096) :
    Calls Try.prog 38 #[.pointer (some ⟨c, 0, none⟩), x.val] w fun e w' => ∃ n err ys, e = .returned (.int .i64 err) ∧ PushR es.length [x.plain] n err ∧ ys.map ME.plain = [x.plain].take n ∧ Led T w0 w' ((l.set i (queueT q (es ++ ys))).set k (valsT (vs ++ ys.map ME.v))) := by
  have hil := (List.getElem?_eq_some_iff.1 hi).1
  have hkl := (List.getElem?_eq_some_iff.1 hk).1
  have h1 := h.alloc 27 #[.int .i64 x.sync, .int .i64 x.thread, .int .i64 x.branch, .int .i64 x.flag, .int .i64 x.v.kind, .int .i64 x.v.num, .slice x.v.addr x.v.parts.length x.v.cap]
  have h2 := (h1.alloc 27 #[.int .i64 x.sync, .int .i64 x.thread, .int .i64 x.branch, .int .i64 x.flag, .int .i64 x.v.kind, .int .i64 x.v.num, .slice x.v.addr x.v.parts.length x.v.cap]).drew
  have hz : (w.alloc (.cells #[.int .i64 x.sync, .int .i64 x.thread, .int .i64 x.branch, .int .i64 x.flag, .int .i64 x.v.kind, .int .i64 x.v.num, .slice x.v.addr x.v.parts.length x.v.cap] 27)).heap.size = w.heap.size + 1 := by simp
  rw [hz] at h2
  have hlt : ∀ {t : Thing} {n : Nat} {m m' : List Thing}, l[n]? = some t → (l ++ m ++ m')[n]? = some t := fun {t n m m'} hn => by
    have := (List.getElem?_eq_some_iff.1 hn).1
    rw [List.getElem?_append_left (by simp; omega), List.getElem?_append_left this]; exact hn
  have HP := Lib.hid (h2.qPush2 (xs := [x]) (cap := 1) i k (hlt hi) (hlt hk) hik (fun W hW ht => ⟨ents_box rfl (hW (l.length + 1) _ (by omega) get_end2), fun y hy => by
    simp at hy; subst hy
    exact hx W (fun j' u hj' hu => hW j' u hj' (hlt hu)) ht⟩) (by simp) hes)
  obtain ⟨x0, x1, x2, x3, x4, x5, x6, _, z1, _, _⟩ := h1.c7 l.length get_end1
  obtain ⟨d0, d1, d2, hl, hl2⟩ := (h1.condAt j (by rw [List.getElem?_append_left (List.getElem?_eq_some_iff.1 hj).1]; exact hj)).cells
  have HC := Lib.hid (h1.condAt j (by rw [List.getElem?_append_left (List.getElem?_eq_some_iff.1 hj).1]; exact hj))
  have HEND : Hid (∀ w' ys, Led T w0 w' (((l ++ [Proofs.Ytihmbgdkllmkaaa.box w.heap.size 27 #[.int .i64 x.sync, .int .i64 x.thread, .int .i64 x.branch, .int .i64 x.flag, .int .i64 x.v.kind, .int .i64 x.v.num, .slice x.v.addr x.v.parts.length x.v.cap]] ++ [Proofs.Ytihmbgdkllmkaaa.box (w.heap.size + 1) 27 #[.int .i64 x.sync, .int .i64 x.thread, .int .i64 x.branch, .int .i64 x.flag, .int .i64 x.v.kind, .int .i64 x.v.num, .slice x.v.addr x.v.parts.length x.v.cap]]).set i (queueT q (es ++ ys))).set k (valsT (vs ++ ys.map ME.v))) → Led T w0 w' ((l.set i (queueT q (es ++ ys))).set k (valsT (vs ++ ys.map ME.v)))) := fun w' ys hL => by
    rw [List.append_assoc, List.set_append_left _ _ hil, List.set_append_left _ _ (by simpa using hkl)] at hL
    exact hL.sub_end
  have HK : Hid (∀ w' ys, Led T w0 w' (((l ++ [Proofs.Ytihmbgdkllmkaaa.box w.heap.size 27 #[.int .i64 x.sync, .int .i64 x.thread, .int .i64 x.branch, .int .i64 x.flag, .int .i64 x.v.kind, .int .i64 x.v.num, .slice x.v.addr x.v.parts.length x.v.cap]] ++ [Proofs.Ytihmbgdkllmkaaa.box (w.heap.size + 1) 27 #[.int .i64 x.sync, .int .i64 x.thread, .int .i64 x.branch, .int .i64 x.flag, .int .i64 x.v.kind, .int .i64 x.v.num, .slice x.v.addr x.v.parts.length x.v.cap]]).set i (queueT q (es ++ ys))).set k (valsT (vs ++ ys.map ME.v))) → EntAt w' w.heap.size 0 x ∧ CondAt w' c a f q) := fun w' ys hL => by
    obtain ⟨c0, c1, c2, c3, c4, c5, c6, _⟩ := hL.c7 l.length (by rw [List.getElem?_set_ne (by omega), List.getElem?_set_ne (by omega), List.append_assoc, List.getElem?_append_right (Nat.le_refl _), Nat.sub_self]; rfl)
    exact ⟨⟨c0, c1, c2, c3, c4, c5, c6⟩, hL.condAt j (by rw [List.getElem?_set_ne (Ne.symm hjk), List.getElem?_set_ne (Ne.symm hji)]; exact hlt hj)⟩
  simp only [ent_eq] at ⊢
  clear h h1 h2 hi hk hj hx hlt hil hkl hz
  go_enter Try.func38, Try.ntmps38
  go_wp2_with fail
  refine (cnone_no _ _ _ _ _ HC.out).mono ?_
  rintro e w' ⟨rfl, rfl⟩
  go_wp2_with fail
  go_region_held3 (fun w' => w'.cell? ⟨c, 2, none⟩ = some (.pointer (some ⟨q, 0, none⟩)) ∧ w'.cell? ⟨w.heap.size, 0, none⟩ = some (.int .i64 x.sync) ∧ w'.cell? ⟨w.heap.size, 1, none⟩ = some (.int .i64 x.thread) ∧ w'.cell? ⟨w.heap.size, 2, none⟩ = some (.int .i64 x.branch) ∧ w'.cell? ⟨w.heap.size, 3, none⟩ = some (.int .i64 x.flag) ∧ w'.cell? ⟨w.heap.size, 4, none⟩ = some (.int .i64 x.v.kind) ∧ w'.cell? ⟨w.heap.size, 5, none⟩ = some (.int .i64 x.v.num) ∧ w'.cell? ⟨w.heap.size, 6, none⟩ = some (.slice x.v.addr x.v.parts.length x.v.cap)) (go_keep)
    ((go_at_call 14; refine HP.out.mono ?_; rintro en wn ⟨n, err, ys, rfl, hR, hp, hL⟩; have HF := Lib.hid (And.intro hR (And.intro hp (HEND.out _ _ hL))); clear x0 x1 x2 x3 x4 x5 x6 d0 d1 d2; (obtain ⟨⟨x0, x1, x2, x3, x4, x5, x6⟩, hcq⟩ := HK.out _ _ hL; obtain ⟨d0, d1, d2, _, _⟩ := hcq.cells; simp only [Nat.zero_add] at x1 x2 x3 x4 x5 x6); clear hR hp hL hcq))
  go_wp2
  go_ret
  exact ⟨n, err, ys, rfl, HF.out.1, HF.out.2.1, HF.out.2.2⟩
set_option maxHeartbeats 1000000 in
theorem Led.cNext (h : Led T w0 w l) (i j : Nat) (hi : l[i]? = some (queueT q es)) (hj : l[j]? = some (Proofs.Ytihmbgdkllmkaaa.box c 90 #[.int .i64 a, .int .i64 f, .pointer (some ⟨q, 0, none⟩)])) (hes : es.length ≤ 1048576) :
    Calls Try.prog 40 #[.pointer (some ⟨c, 0, none⟩)] w (Nexted T w0 l i q es) := by
  obtain ⟨d0, d1, d2, hl, hl2⟩ := (h.condAt j hj).cells
  have hil := (List.getElem?_eq_some_iff.1 hi).1
  have HC := Lib.hid ((h.condAt j hj).touch ((Touch.refl [] w).alloc (.cells #[.int .i64 0, .int .i64 0, .int .i64 0, .int .i64 0, .int .i64 0, .int .i64 0, .slice none 0 0] 27)))
  have h1 := h.alloc 27 #[.int .i64 0, .int .i64 0, .int .i64 0, .int .i64 0, .int .i64 0, .int .i64 0, .slice none 0 0]
  have HP := Lib.hid (h1.qDrop i (by rw [List.getElem?_append_left hil]; exact hi) 0 hes)
  have HI := Lib.hid hil
  clear h h1 hi hj hil
  go_enter Try.func40, Try.ntmps40
  go_wp2_with fail
  refine (cnone_no _ _ _ _ _ HC.out).mono ?_
  rintro e w' ⟨rfl, rfl⟩
  go_wp2_with fail
  refine HP.out.mono ?_
  rintro e w2 (⟨x, _, hx, rfl, hL⟩ | ⟨hn, rfl, hL⟩)
  · obtain ⟨r, rfl⟩ : ∃ r, es = x :: r := by
      cases es with
      | nil => simp at hx
      | cons y r => simp at hx; exact ⟨r, by rw [hx]⟩
    rw [List.set_append_left _ _ HI.out] at hL
    have HL := Lib.hid hL
    clear hL hx HC HP
    simp only [ent_eq]
    obtain ⟨x0, x1, x2, x3, x4, x5, x6, ⟨f0, f1, f2, f3, f4, f5, f6⟩, z1, _, _⟩ := HL.out.c7 (l.set i (queueT q ((x :: r).eraseIdx (Int.toNat 0)))).length get_end1
    go_wp2
    have HL7 := Lib.hid (HL.out.setEnt (l.set i (queueT q ((x :: r).eraseIdx (Int.toNat 0)))).length get_end1 x.sync x.thread x.branch x.flag x.v.kind x.v.num (.slice x.v.addr x.v.parts.length x.v.cap))
    obtain ⟨s0, s1, s2, s3, s4, s5, s6, _⟩ := HL7.out.c7 (l.set i (queueT q ((x :: r).eraseIdx (Int.toNat 0)))).length (List.getElem?_set_self (by simp))
    refine bodyPost_ret (v := .tuple #[x.val, .bool true]) (by simp [results, Try.results40, go_sem, s0, s1, s2, s3, s4, s5, s6, ent_eq]) rfl ?_
    refine .inl ⟨x, r, rfl, rfl, ?_⟩
    have h := HL7.out
    rw [List.set_append_right _ _ (Nat.le_refl _)] at h
    exact h.sub_end
  · obtain rfl : es = [] := by
      cases es with
      | nil => rfl
      | cons y r => exact absurd ⟨by decide, by simp⟩ hn
    rw [List.set_append_left _ _ HI.out] at hL
    have HL := Lib.hid hL
    clear hL hn HC HP
    have hzv : ME.zero.val = .agg #[.int .i64 0, .int .i64 0, .int .i64 0, .int .i64 0, .int .i64 0, .int .i64 0, .slice none 0 0] := rfl
    rw [hzv]
    obtain ⟨x0, x1, x2, x3, x4, x5, x6, ⟨f0, f1, f2, f3, f4, f5, f6⟩, z1, _, _⟩ := HL.out.c7 (l.set i (queueT q [])).length get_end1
    go_wp2
    have HL7 := Lib.hid (HL.out.setEnt (l.set i (queueT q [])).length get_end1 0 0 0 0 0 0 (.slice none 0 0))
    obtain ⟨s0, s1, s2, s3, s4, s5, s6, _⟩ := HL7.out.c7 (l.set i (queueT q [])).length (List.getElem?_set_self (by simp))
    refine bodyPost_ret (v := .tuple #[.agg #[.int .i64 0, .int .i64 0, .int .i64 0, .int .i64 0, .int .i64 0, .int .i64 0, .slice none 0 0], .bool false]) (by simp [results, Try.results40, go_sem, s0, s1, s2, s3, s4, s5, s6]) rfl ?_
    refine .inr ⟨rfl, rfl, ?_⟩
    have h := HL7.out
    rw [List.set_append_right _ _ (Nat.le_refl _)] at h
    exact h.sub_end
end
end Go.Proofs.Ytihmbgdkllmkaaa

/-
  Copies of values' top rows, as one thing: exact until they are turned, loose from then on. No program is in sight.
-/
namespace Go.Proofs.Ytihmbgdkllmkaaa
open Go.RowKit
set_option linter.unusedVariables false
set_option linter.unusedSimpArgs false

/-- The top rows of values. -/
def exactT (ts : List MT) : Thing where
  holds w fp := (∀ k ∈ fp, k < w.heap.size) ∧ ∀ t ∈ ts, (∀ k ∈ sb (.slice t.addr t.parts.length t.cap), k ∈ fp) ∧ rowS w 25 3 (.slice t.addr t.parts.length t.cap) t.parts.length (valCells t.parts)
  keep := fun {w w' fp} ⟨h1, h2⟩ he => ⟨fun k hk => by
    have := he k hk
    rw [Array.getElem?_eq_getElem (h1 k hk)] at this
    exact (Array.getElem?_eq_some_iff.1 this).1, fun t ht => ⟨(h2 t ht).1, rowS_keep (h2 t ht).2 (fun k hk => he k ((h2 t ht).1 k hk))⟩⟩
  lt := fun h k hk => h.1 k hk
/-- Top rows of values of which nothing is known but that they are such. -/
def looseT (sh : List (Option Addr × Nat × Nat)) : Thing where
  holds w fp := (∀ k ∈ fp, k < w.heap.size) ∧ ∀ s ∈ sh, (∀ k ∈ sb (.slice s.1 s.2.1 s.2.2), k ∈ fp) ∧ ∃ parts : List MT, parts.length = s.2.1 ∧ rowS w 25 3 (.slice s.1 s.2.1 s.2.2) s.2.1 (valCells parts)
  keep := fun {w w' fp} ⟨h1, h2⟩ he => ⟨fun k hk => by
    have := he k hk
    rw [Array.getElem?_eq_getElem (h1 k hk)] at this
    exact (Array.getElem?_eq_some_iff.1 this).1, fun s hs => by
      obtain ⟨g1, parts, g2, g3⟩ := h2 s hs
      exact ⟨g1, parts, g2, rowS_keep g3 (fun k hk => he k (g1 k hk))⟩⟩
  lt := fun h k hk => h.1 k hk
def MT.sh (t : MT) : Option Addr × Nat × Nat := (t.addr, t.parts.length, t.cap)
section
variable {T : List Nat} {w0 w w' : World} {l : List Thing} {ts : List MT} {sh : List (Option Addr × Nat × Nat)}
theorem Led.exact0 (h : Led T w0 w l) : Led T w0 w (l ++ [exactT []]) := h.new (t' := exactT []) (f' := []) ⟨by simp, by simp⟩ ⟨Touch.refl _ _, by simp⟩
/-- One row more. -/
theorem Led.exactAdd {t : MT} (h : Led T w0 w (l ++ [rowT 25 3 (.slice t.addr t.parts.length t.cap) t.parts.length (valCells t.parts)])) (j : Nat) (hj : l[j]? = some (exactT ts)) : Led T w0 w (l.set j (exactT (ts ++ [t]))) := by
  refine h.mergeAt j hj ?_
  rintro f1 f2 ⟨a1, a2⟩ ⟨rfl, b2⟩
  refine ⟨fun k hk => (List.mem_append.1 hk).elim (a1 k) (rowS_lt b2 k), fun t' ht' => ?_⟩
  rcases List.mem_append.1 ht' with ht' | ht'
  · exact ⟨fun k hk => List.mem_append_left _ ((a2 t' ht').1 k hk), (a2 t' ht').2⟩
  · obtain rfl : t' = t := by simpa using ht'
    exact ⟨fun k hk => List.mem_append_right _ hk, b2⟩
theorem Led.exactAt (h : Led T w0 w l) (i : Nat) (hi : l[i]? = some (exactT ts)) : ∀ t ∈ ts, rowS w 25 3 (.slice t.addr t.parts.length t.cap) t.parts.length (valCells t.parts) := by
  obtain ⟨f, hf, _⟩ := h.get i hi
  exact fun t ht => (hf.2 t ht).2
theorem exactT_in {W : World} (h : ∃ f, (exactT ts).holds W f) {t : MT} (ht : t ∈ ts) (hl : t.parts.length ≤ 9223372036854775807) (hp : ∀ u ∈ t.parts, u.In W) : t.In W := by
  obtain ⟨f, _, h2⟩ := h
  obtain ⟨_, hr⟩ := h2 t ht
  cases t with
  | mk k n a c l =>
    refine MT.in_mk hl ?_ hp
    by_cases h0 : l.length = 0
    · intro i hi; omega
    · obtain ⟨g, cap', cur, hv, _⟩ := rowS_form hr (by simpa [MT.parts] using Nat.pos_of_ne_zero h0)
      injection hv with h1 _ h3
      have h1' : a = some ⟨g, 0, none⟩ := h1
      subst h1'
      exact row_at_of (v := .slice none 0 0) (cap := c) hr
theorem Led.loosen (h : Led T w0 w l) (i : Nat) (hi : l[i]? = some (exactT ts)) : Led T w0 w (l.set i (looseT (ts.map MT.sh))) :=
  h.retype i hi (fun f ⟨h1, h2⟩ => ⟨h1, fun s hs => by
    obtain ⟨t, ht, rfl⟩ := List.mem_map.1 hs
    exact ⟨(h2 t ht).1, t.parts, rfl, (h2 t ht).2⟩⟩)
theorem Led.looseAt (h : Led T w0 w l) (i : Nat) (hi : l[i]? = some (looseT sh)) {a : Option Addr} {n c : Nat} (hs : (a, n, c) ∈ sh) {k : Nat} (hk : k < n) : ∃ g z, a = some ⟨g, 0, none⟩ ∧ w.cell? ⟨g, k * 3 + 1, none⟩ = some (.int .i64 z) ∧ w.frozen? ⟨g, k * 3 + 1, none⟩ = false ∧ g < w.heap.size := by
  obtain ⟨f, hf, _⟩ := h.get i hi
  obtain ⟨h1, parts, h2, h3⟩ := hf.2 _ hs
  obtain ⟨g, cap', cur, hv, _⟩ := rowS_form h3 (by simp only; omega)
  injection hv with e1 _ e3
  simp only at e1 h2
  subst e1
  have hlen := valCells_length parts
  have hlt : k * 3 + 1 < (valCells parts).length := by omega
  refine ⟨g, (parts[k]'(by omega)).num, rfl, ?_, rowS_frozen h3 _, rowS_lt h3 g (by simp [sb, Value.ownBlock])⟩
  rw [rowS_cell h3 _ hlt]
  have := valCells_get parts k (by omega) 1 (by omega)
  rw [List.getElem?_eq_getElem hlt] at this
  rw [this]
  rfl
theorem valCells_setnum (parts : List MT) (j : Nat) (z : Int) : ∃ parts' : List MT, parts'.length = parts.length ∧ valCells parts' = (valCells parts).set (j * 3 + 1) (.int .i64 z) := by
  induction parts generalizing j with
  | nil => exact ⟨[], rfl, by simp [valCells]⟩
  | cons t r ih =>
    cases j with
    | zero =>
      cases t with
      | mk k n a c l => exact ⟨.mk k z a c l :: r, rfl, rfl⟩
    | succ j =>
      obtain ⟨r', h1, h2⟩ := ih j
      refine ⟨t :: r', by simp [h1], ?_⟩
      simp only [valCells, List.flatMap_cons] at h2 ⊢
      rw [h2]
      simp only [MT.cells, List.cons_append, List.nil_append]
      rw [show (j + 1) * 3 + 1 = j * 3 + 1 + 1 + 1 + 1 from by omega]
      rfl
theorem Led.looseSet (h : Led T w0 w l) (i : Nat) (hi : l[i]? = some (looseT sh)) {g n c : Nat} (hs : (some ⟨g, 0, none⟩, n, c) ∈ sh) (k : Nat) (z : Int) : Led T w0 (w.setCell ⟨g, k * 3 + 1, none⟩ (.int .i64 z)) l := by
  obtain ⟨f, hf, _, hst⟩ := h.step i hi
  have hgf : g ∈ f := (hf.2 _ hs).1 g (by simp [sb, Value.ownBlock])
  have hnew : (looseT sh).holds (w.setCell ⟨g, k * 3 + 1, none⟩ (.int .i64 z)) f := by
    refine ⟨fun k hk => by simpa using hf.1 k hk, fun s hs' => ?_⟩
    obtain ⟨g1, parts, g2, g3⟩ := hf.2 s hs'
    refine ⟨g1, ?_⟩
    by_cases hb : g ∈ sb (.slice s.1 s.2.1 s.2.2)
    · rcases g3.2 with ⟨hv, _⟩ | ⟨g', cap', cur, hv, _⟩
      · rw [hv] at hb; simp [sb, Value.ownBlock] at hb
      · rw [hv] at hb g3 ⊢
        have : g = g' := by simpa [sb, Value.ownBlock] using hb
        subst this
        obtain ⟨parts', h1, h2⟩ := valCells_setnum parts k z
        refine ⟨parts', by omega, ?_⟩
        rw [h2]
        exact rowS_set g3 _ _
    · exact ⟨parts, g2, rowS_keep g3 (fun k' hk' => ((Touch.refl [g] w).setCell _ _ (.inl (by simp))).block k' (rowS_lt g3 k' hk') (by
        intro hc
        have : k' = g := by simpa using hc
        subst this
        exact hb hk'))⟩
  have h2 := hst _ _ f hnew ⟨(Touch.refl _ w).setCell _ _ (.inl hgf), fun k hk => .inl hk⟩
  rwa [show l.set i (looseT sh) = l from by
    apply List.ext_getElem?
    intro j
    by_cases hj : i = j
    · subst hj; rw [List.getElem?_set_self (List.getElem?_eq_some_iff.1 hi).1, hi]
    · rw [List.getElem?_set_ne hj]] at h2
theorem entCells_setsync (cs : List ME) (j : Nat) (z : Int) : ∃ cs' : List ME, cs'.length = cs.length ∧ cs'.map (fun c => c.v.sh) = cs.map (fun c => c.v.sh) ∧ entCells cs' = (entCells cs).set (j * 7) (.int .i64 z) := by
  induction cs generalizing j with
  | nil => exact ⟨[], rfl, rfl, by simp [entCells]⟩
  | cons t r ih =>
    cases j with
    | zero => exact ⟨{ t with sync := z } :: r, rfl, rfl, rfl⟩
    | succ j =>
      obtain ⟨r', h1, h2, h3⟩ := ih j
      refine ⟨t :: r', by simp [h1], by simp [h2], ?_⟩
      simp only [entCells, List.flatMap_cons] at h3 ⊢
      rw [h3]
      simp only [ME.cells, List.cons_append, List.nil_append]
      rw [show (j + 1) * 7 = j * 7 + 1 + 1 + 1 + 1 + 1 + 1 + 1 from by omega]
      rfl
/-- Push, the values gone into what never turns. -/
theorem Led.qPushS {P : World → Prop} {g : Nat} {es xs : List ME} {a : Option Addr} {cap : Nat} (h : Led T w0 w l) (i j : Nat) (hi : l[i]? = some (queueT g es)) (hj : l[j]? = some (stillT P)) (hij : i ≠ j) (hsrc : ∀ W, Beside l i W → EntsAt W a xs ∧ ∀ x ∈ xs, x.v.In W) (hn : xs.length ≤ 1099511627776) (hes : es.length ≤ 4096) :
    Calls Try.prog 14 #[.pointer (some ⟨g, 0, none⟩), .slice a xs.length cap] w fun e w' => ∃ (k : Nat) (err : Int) (ys : List ME), e = .returned (.int .i64 err) ∧ PushR es.length (xs.map ME.plain) k err ∧ ys.map ME.plain = (xs.map ME.plain).take k ∧ Led T w0 w' ((l.set i (queueT g (es ++ ys))).set j (stillT fun W => P W ∧ ∀ y ∈ ys, y.v.In W)) := by
  obtain ⟨T', h1, _, hk, hb⟩ := h.frameK i hi
  refine (Push_q T' w g es xs a cap h1 (fun W hW => hsrc W (hk W hW)) hn hes).mono ?_
  rintro e w' ⟨k, err, ys, rfl, hR, hp, hL⟩
  refine ⟨k, err, ys, rfl, hR, hp, Led.settle (hb _ _ _ hL) j ?_ (fun W f hW hf => ⟨hW, fun y hy => hf.2 _ (List.mem_map.2 ⟨y, hy, rfl⟩)⟩)⟩
  rwa [List.getElem?_set_ne hij]
end
end Go.Proofs.Ytihmbgdkllmkaaa

/-
  The ledger: the frame of the first things. No program is in sight.
-/
namespace Go.Proofs.Ytihmbgdkllmkaaa
open Go.RowKit
set_option linter.unusedVariables false
section
variable {T : List Nat} {w0 w w' : World} {m r : List Thing}
/-- What is shown of the first things alone. -/
theorem Led.frameFront (h : Led T w0 w (m ++ r)) : ∃ T', Led T' w w m ∧ ∀ w' m', Led T' w w' m' → Led T w0 w' (m' ++ r) := by
  have hz := h.size
  obtain ⟨hb, F, h1, h2⟩ := h
  have hT : ∀ k, k ∈ (List.range m.length).flatMap F ↔ ∃ i, i < m.length ∧ k ∈ F i := fun k => by simp
  have hm1 : ∀ i t, m[i]? = some t → t.holds w (F i) ∧ ∀ k ∈ F i, k ∈ T ∨ w0.heap.size ≤ k := fun i t hi => by
    have hl := (List.getElem?_eq_some_iff.1 hi).1
    exact h1 i t (by rw [List.getElem?_append_left hl]; exact hi)
  have hr1 : ∀ i t, r[i]? = some t → t.holds w (F (i + m.length)) ∧ ∀ k ∈ F (i + m.length), k ∈ T ∨ w0.heap.size ≤ k := fun i t hi => by
    exact h1 (i + m.length) t (by rw [List.getElem?_append_right (by omega)]; rw [show i + m.length - m.length = i from by omega]; exact hi)
  have hT0 : ∀ k ∈ (List.range m.length).flatMap F, k ∈ T ∨ w0.heap.size ≤ k := fun k hk => by
    obtain ⟨i, hi, hk⟩ := (hT k).1 hk
    exact (hm1 i _ (List.getElem?_eq_getElem hi)).2 k hk
  have hout : ∀ i, i < r.length → ∀ k ∈ F (i + m.length), k ∉ (List.range m.length).flatMap F := fun i hi k hk hc => by
    obtain ⟨j, hj, hkj⟩ := (hT k).1 hc
    exact h2 j (i + m.length) (by simp; omega) (by simp; omega) (by omega) k hkj hk
  refine ⟨(List.range m.length).flatMap F, ⟨Touch.refl _ _, F, fun i t hi => ⟨(hm1 i t hi).1, fun k hk => .inl ((hT k).2 ⟨i, (List.getElem?_eq_some_iff.1 hi).1, hk⟩)⟩, fun i j hi hj hij => h2 i j (by simp; omega) (by simp; omega) hij⟩, ?_⟩
  rintro w' m' ⟨hb', F', g1, g2⟩
  have hnew : ∀ i, i < m'.length → ∀ k ∈ F' i, k ∈ (List.range m.length).flatMap F ∨ w.heap.size ≤ k := fun i hi k hk => (g1 i _ (List.getElem?_eq_getElem hi)).2 k hk
  have hlt : ∀ i, i < r.length → ∀ k ∈ F (i + m.length), k < w.heap.size := fun i hi k hk => r[i].lt (hr1 i _ (List.getElem?_eq_getElem hi)).1 k hk
  have hdis : ∀ i j, i < m'.length → j < r.length → ∀ k ∈ F' i, k ∉ F (j + m.length) := fun i j hi hj k hk hk2 => by
    rcases hnew i hi k hk with h | h
    · exact hout j hj k hk2 h
    · have := hlt j hj k hk2
      omega
  refine ⟨hb.trans hb' hT0, fun i => if i < m'.length then F' i else F (i - m'.length + m.length), ?_, ?_⟩
  · intro i t hi
    by_cases hil : i < m'.length
    · rw [List.getElem?_append_left hil] at hi
      simp only [if_pos hil]
      obtain ⟨a, b⟩ := g1 i t hi
      exact ⟨a, fun k hk => (b k hk).elim (hT0 k) (fun h => .inr (by omega))⟩
    · rw [List.getElem?_append_right (by omega)] at hi
      simp only [if_neg hil]
      have hrl := (List.getElem?_eq_some_iff.1 hi).1
      obtain ⟨a, b⟩ := hr1 _ t hi
      exact ⟨t.keep a (fun k hk => hb'.block k (hlt _ hrl k hk) (hout _ hrl k hk)), b⟩
  · intro i j hi hj hij x hx hx2
    dsimp only at hx hx2
    simp only [List.length_append] at hi hj
    by_cases h3 : i < m'.length
    · rw [if_pos h3] at hx
      by_cases h4 : j < m'.length
      · rw [if_pos h4] at hx2; exact g2 i j h3 h4 hij x hx hx2
      · rw [if_neg h4] at hx2; exact hdis i (j - m'.length) h3 (by omega) x hx hx2
    · rw [if_neg h3] at hx
      by_cases h4 : j < m'.length
      · rw [if_pos h4] at hx2; exact hdis j (i - m'.length) h4 (by omega) x hx2 hx
      · rw [if_neg h4] at hx2
        exact h2 _ _ (by simp; omega) (by simp; omega) (by omega) x hx hx2
end
end Go.Proofs.Ytihmbgdkllmkaaa

/-
  Layer 15 (cond.go): Wait, Next, Copy, over a condition, its queue, and what never turns.
-/
namespace Go.Proofs.Ytihmbgdkllmkaaa
open Go.RowKit Go.Shelf
set_option maxRecDepth 100000
set_option linter.unusedVariables false
set_option linter.unusedSimpArgs false

/-- A condition of which the lock is the first cell, its queue, what never turns. -/
def condL (c q : Nat) (es : List ME) (P : World → Prop) : List Thing := [box c 90 #[.int .i64 0, .int .i64 1, .pointer (some ⟨q, 0, none⟩)], queueT q es, stillT P]
set_option maxHeartbeats 2000000 in
theorem Wait_cS (T : List Nat) (w : World) (c q : Nat) (es : List ME) (P : World → Prop) (x : ME) (h : Led T w w (condL c q es P)) (hP : ∀ W, P W → x.v.In W) (hes : es.length ≤ 4096) :
    Calls Try.prog 38 #[.pointer (some ⟨c, 0, none⟩), x.val] w fun e w' => ∃ (k : Nat) (err : Int) (ys : List ME), e = .returned (.int .i64 err) ∧ PushR es.length [x.plain] k err ∧ ys.map ME.plain = [x.plain].take k ∧ Led T w w' (condL c q (es ++ ys) (fun W => P W ∧ ∀ y ∈ ys, y.v.In W)) := by
  have HP := Lib.hid hP
  have HL0 := Lib.hid h
  unfold condL at HL0
  clear h hP
  simp only [ent_eq]
  go_enter Try.func38, Try.ntmps38
  go_wp2_with fail
  refine wp_calls_name ?_
  intro w1 hw1
  have HL1 := Lib.hid (HL0.out.al1 hw1)
  simp only [List.nil_append, List.cons_append] at HL1
  obtain ⟨b3, hb3⟩ : ∃ b, w.heap.size = b := ⟨_, rfl⟩
  rw [hb3] at HL1 ⊢
  clear hw1 hb3 HL0
  refine (cnone_no _ _ _ _ _ (HL1.out.condAt 0 rfl)).mono ?_
  rintro e w' ⟨rfl, rfl⟩
  obtain ⟨d0, d1, d2, _, _, _, hl, _, _⟩ := HL1.out.c3 0 rfl
  obtain ⟨x0, x1, x2, x3, x4, x5, x6, _, hl3, _, _⟩ := HL1.out.c7 3 rfl
  have HL2 := Lib.hid (HL1.out.alloc 27 #[.int .i64 x.sync, .int .i64 x.thread, .int .i64 x.branch, .int .i64 x.flag, .int .i64 x.v.kind, .int .i64 x.v.num, .slice x.v.addr x.v.parts.length x.v.cap]).drew
  simp only [List.nil_append, List.cons_append] at HL2
  have HPU := Lib.hid (HL2.out.qPushS (xs := [x]) (a := some ⟨w1.heap.size, 0, none⟩) (cap := 1) 1 2 rfl rfl (by decide) (fun W hW => ⟨ents_box rfl (hW 4 _ (by decide) rfl), fun y hy => by
    simp at hy; subst hy
    obtain ⟨f, _, hs⟩ := hW 2 (stillT P) (by decide) rfl
    exact HP.out W (hs W (fun _ _ => rfl))⟩) (by simp) hes)
  go_wp2_with fail
  go_region_held3 (fun w' => w'.cell? ⟨c, 2, none⟩ = some (.pointer (some ⟨q, 0, none⟩)) ∧ w'.cell? ⟨b3, 0, none⟩ = some (.int .i64 x.sync) ∧ w'.cell? ⟨b3, 1, none⟩ = some (.int .i64 x.thread) ∧ w'.cell? ⟨b3, 2, none⟩ = some (.int .i64 x.branch) ∧ w'.cell? ⟨b3, 3, none⟩ = some (.int .i64 x.flag) ∧ w'.cell? ⟨b3, 4, none⟩ = some (.int .i64 x.v.kind) ∧ w'.cell? ⟨b3, 5, none⟩ = some (.int .i64 x.v.num) ∧ w'.cell? ⟨b3, 6, none⟩ = some (.slice x.v.addr x.v.parts.length x.v.cap)) (go_keep) (first
    | (go_at_call 14; refine HPU.out.mono ?_; rintro e w4 ⟨k, err, ys, rfl, hR, hp, hL⟩; have HL4 := Lib.hid hL; (simp only [List.set_cons_zero, List.set_cons_succ] at HL4); have HR := Lib.hid hR; have HPY := Lib.hid hp; clear hL hR hp d0 d1 d2 hl x0 x1 x2 x3 x4 x5 x6 hl3; obtain ⟨d0, d1, d2, _, _, _, hl, _, _⟩ := HL4.out.c3 0 rfl; obtain ⟨x0, x1, x2, x3, x4, x5, x6, _, hl3, _, _⟩ := HL4.out.c7 3 rfl))
  go_wp2
  go_ret
  exact ⟨k, err, ys, rfl, HR.out, HPY.out, HL4.out.sel [0, 1, 2] rfl (by decide)⟩
/-- Next, in one. -/
theorem Next_cS (T : List Nat) (w : World) (c q : Nat) (es : List ME) (P : World → Prop) (h : Led T w w (condL c q es P)) (hes : es.length ≤ 4096) :
    Calls Try.prog 40 #[.pointer (some ⟨c, 0, none⟩)] w fun e w' => ∃ (y : ME) (b : Bool), e = .returned (.tuple #[y.val, .bool b]) ∧ AtRef es 0 y b ∧ Led T w w' (condL c q (if b = true then es.eraseIdx 0 else es) P) := by
  refine (Led.cNext h 1 0 rfl rfl (by omega)).mono ?_
  rintro e w' (⟨x, r, rfl, rfl, hL⟩ | ⟨rfl, rfl, hL⟩)
  · exact ⟨x, true, rfl, .inl ⟨rfl, by omega, rfl⟩, hL⟩
  · exact ⟨ME.zero, false, rfl, .inr ⟨rfl, by simp, rfl⟩, hL⟩
set_option maxHeartbeats 2000000 in
theorem Copy_cS (T : List Nat) (w : World) (c q : Nat) (es : List ME) (P : World → Prop) (h : Led T w w (condL c q es P)) (hP : ∀ W, P W → ∀ e ∈ es, e.v.In W) (hn : ∀ e ∈ es, e.v.nodes ≤ 256) (hes : es.length ≤ 4096) :
    Calls Try.prog 49 #[.pointer (some ⟨c, 0, none⟩)] w fun e w' => ∃ (c2 q2 : Nat) (ys : List ME), e = .returned (.pointer (some ⟨c2, 0, none⟩)) ∧ ys.map ME.plain = es.map ME.plain ∧ Led T w w' (condL c q es (fun W => P W ∧ ∀ y ∈ ys, y.v.In W) ++ [queueT q2 ys, box c2 90 #[.int .i64 0, .int .i64 1, .pointer (some ⟨q2, 0, none⟩)]]) := by
  have HP := Lib.hid hP
  have HN := Lib.hid hn
  have HL0 := Lib.hid h
  unfold condL at HL0
  clear h hP hn
  obtain ⟨d0, d1, d2, _, _, _, hl, _, _⟩ := HL0.out.c3 0 rfl
  have HC := Lib.hid (fun W (hW : Touch [] w W) => Copy_q W q es ((HL0.out.touch hW).qAt 1 rfl) (fun e he => ⟨HP.out _ ((HL0.out.touch hW).still 2 rfl) e he, HN.out e he⟩) (by omega))
  go_enter Try.func49, Try.ntmps49
  go_wp2_with fail
  refine (cnone_no _ _ _ _ _ (HL0.out.condAt 0 rfl)).mono ?_
  rintro e w' ⟨rfl, rfl⟩
  go_wp2_with fail
  go_region_held3 (fun w' => w'.cell? ⟨c, 2, none⟩ = some (.pointer (some ⟨q, 0, none⟩))) (go_keep) (first
    | (go_at_call 28; refine (HC.out _ (Touch.refl [] w).drew).mono ?_; rintro e w2 ⟨q2, ys, rfl, hpl, hL⟩; have HL2 := Lib.hid (HL0.out.drew.join hL); (simp only [List.nil_append, List.cons_append] at HL2); have HPL := Lib.hid hpl; clear hL hpl d0 d1 d2 hl; obtain ⟨d0, d1, d2, _, _, _, hl, _, _⟩ := HL2.out.c3 0 rfl)
    | (go_at_call 78; refine (made_c _ (some ⟨q2, 0, none⟩) c 0 2 0 1 d0 (by simpa using d1)).mono ?_; rintro e w3 ⟨rfl, hb, ht⟩; have HL3 := Lib.hid (HL2.out.new (t' := box w2.heap.size 90 #[.int .i64 0, .int .i64 1, .pointer (some ⟨q2, 0, none⟩)]) (f' := [w2.heap.size]) ⟨rfl, hb⟩ ⟨ht, fun k hk => .inr (by simp at hk; omega)⟩); (simp only [List.nil_append, List.cons_append] at HL3); clear hb ht d0 d1 d2 hl; obtain ⟨d0, d1, d2, _, _, _, hl, _, _⟩ := HL3.out.c3 0 rfl))
  go_wp2
  go_ret
  refine ⟨w2.heap.size, q2, ys, rfl, HPL.out, ?_⟩
  have h1 := HL3.out.sel [0, 1, 2, 3, 5, 4] (l' := [box c 90 #[.int .i64 0, .int .i64 1, .pointer (some ⟨q, 0, none⟩)], queueT q es, stillT P, queueT q2 ys, box w2.heap.size 90 #[.int .i64 0, .int .i64 1, .pointer (some ⟨q2, 0, none⟩)]] ++ [valsT (ys.map ME.v)]) rfl (by decide)
  exact Led.settle (l := [_, _, _, _, _]) h1 2 rfl (fun W f hW hf => ⟨hW, fun y hy => hf.2 _ (List.mem_map.2 ⟨y, hy, rfl⟩)⟩)
end Go.Proofs.Ytihmbgdkllmkaaa

/-
  The reference of layer 13 (betrothalref13/ref.go): Purge.
-/
namespace Go.Proofs.Ytihmbgdkllmkaaa
open Go.RowKit Go.Shelf
set_option maxRecDepth 100000
set_option linter.unusedVariables false
set_option linter.unusedSimpArgs false

/-- What the reference's Purge tells. -/
def PurgedR (T : List Nat) (w : World) (P : World → Prop) (rs : List ME) (zs : List Int) (e : Ending) (w' : World) : Prop :=
  ∃ (a' : Option Addr) (cap' : Nat) (rs' : List ME), rs' = rs.filter (fun e => !decide (e.sync ∈ zs)) ∧ e = .returned (.tuple #[.agg #[.slice a' rs'.length cap'], .int .i64 ((rs.length : Int) - (rs'.length : Int))]) ∧ rs'.length ≤ cap' ∧ Grew T w P a' rs' w'
set_option maxHeartbeats 8000000 in
theorem Purge_ref (T : List Nat) (w : World) (P : World → Prop) (a za : Option Addr) (cap zc : Nat) (rs : List ME) (zs : List Int) (h : Led T w w [stillT P]) (hP : ∀ W, P W → EntsAt W a rs ∧ IntsAt W za zs) (hlen : rs.length ≤ 1048576) (hzl : zs.length ≤ 1048576) :
    Calls Try.prog 72 #[.agg #[.slice a rs.length cap], .slice za zs.length zc] w (PurgedR T w P rs zs) := by
  have HP := Lib.hid hP
  have HL0 := Lib.hid h
  obtain ⟨i0, hi0, iz0, iz1, iz2⟩ := info_parts info_ent
  clear h hP
  go_enter Try.func72, Try.ntmps72
  go_wp2_with fail
  refine wp_name ?_
  intro w1 hw1
  have HL1 := Lib.hid ((HL0.out.al3 hw1).rowSnil 27 7)
  simp only [List.nil_append, List.cons_append] at HL1
  obtain ⟨b6, hb6⟩ : ∃ b, w.heap.size + 1 + 1 = b := ⟨_, rfl⟩
  rw [hb6] at HL1 ⊢
  obtain ⟨b4, hb4⟩ : ∃ b, w.heap.size + 1 = b := ⟨_, rfl⟩
  rw [hb4] at HL1 ⊢
  obtain ⟨b2, hb2⟩ : ∃ b, w.heap.size = b := ⟨_, rfl⟩
  rw [hb2] at HL1 ⊢
  clear hw1 hb6 hb4 hb2 HL0
  go_loopw [7] (fun i wr => ∃ (j : Nat) (ol : List ME) (oa : Option Addr) (oc : Nat), i = .int .i64 (j : Int) ∧ j ≤ rs.length ∧ ol.length ≤ j ∧ Hid (ol = (rs.take j).filter (fun e => !decide (e.sync ∈ zs))) ∧
    Hid (Led T w wr [stillT P, box b2 54 #[.slice a rs.length cap], box b4 54 #[.slice none 0 0], box b6 54 #[.slice oa ol.length oc], rowT 27 7 (.slice oa ol.length oc) ol.length (entCells ol)])) (fun i _ => rs.length - (intOf i).toNat)
  case atStart => exact ⟨0, [], none, 0, rfl, Nat.zero_le _, Nat.le_refl _, by unfold Hid; simp, HL1⟩
  case round =>
    obtain ⟨j, ol, oa, oc, rfl, hj, hol, HF, HK⟩ := hrel
    clear HL1
    have hj0 : (0 : Int) ≤ (j : Int) := by omega
    obtain ⟨v0, vf, hl2, _, _⟩ := HK.out.c1 1 rfl
    by_cases hjl : j < rs.length
    · have hjl' : (j : Int) < (rs.length : Int) := by omega
      obtain ⟨b, o, rfl, hb, p0, p1, p2, p3, p4, p5, p6⟩ := (HP.out _ (HK.out.still 0 rfl)).1 j hjl
      have HE2 : Hid (∀ W, P W → b < W.heap.size ∧ EntAt W b (o + j * 7) rs[j]) := fun W hW => by
        obtain ⟨h2, h3⟩ := HP.out W hW
        obtain ⟨b', o', hbo, hb', he⟩ := h2 j hjl
        injection hbo with hbo
        injection hbo with h4 h5
        subst h4 h5
        exact ⟨hb', he⟩
      have HXT : Hid (rs.take (j + 1) = rs.take j ++ [rs[j]]) := by unfold Hid; simp
      generalize rs[j] = x at p0 p1 p2 p3 p4 p5 p6 HE2 HXT
      clear p0 p1 p2 p3 p4 p5 p6
      go_wp2_with fail
      go_loopw [8, 9] (fun g k wr => ∃ (m : Nat) (gb : Bool), k = .int .i64 (m : Int) ∧ g = .bool gb ∧ m ≤ zs.length ∧ Hid (gb = true ↔ x.sync ∈ zs.take m) ∧
        Hid (Led T w wr [stillT P, box b2 54 #[.slice (some ⟨b, o, none⟩) rs.length cap], box b4 54 #[.slice none 0 0], box b6 54 #[.slice oa ol.length oc], rowT 27 7 (.slice oa ol.length oc) ol.length (entCells ol)])) (fun _ k _ => zs.length - (intOf k).toNat)
      case atStart => exact ⟨0, false, rfl, rfl, Nat.zero_le _, by unfold Hid; simp, HK⟩
      case round =>
        obtain ⟨m, gb, rfl, rfl, hm, HG, HK2⟩ := hrel
        clear HK v0 vf hl2
        have hm0 : (0 : Int) ≤ (m : Int) := by omega
        obtain ⟨v0, vf, hl2, _, _⟩ := HK2.out.c1 1 rfl
        obtain ⟨hb2, p0, p1, p2, p3, p4, p5, p6⟩ := HE2.out _ (HK2.out.still 0 rfl)
        by_cases hml : m < zs.length
        · have hml' : (m : Int) < (zs.length : Int) := by omega
          obtain ⟨zb, zo, rfl, hzb, z0⟩ := (HP.out _ (HK2.out.still 0 rfl)).2 m hml
          have HZT : Hid (zs.take (m + 1) = zs.take m ++ [zs[m]]) := by unfold Hid; simp
          generalize zs[m] = z at z0 HZT
          go_wp2_with fail
          cases gb with
          | true =>
            go_quiet (fail)
            have HK3 := Lib.hid (HK2.out.drewN nq)
            have HG2 : Hid (true = true ↔ x.sync ∈ zs.take (m + 1)) := by unfold Hid; rw [HZT.out]; simp; exact .inl (HG.out.1 rfl)
            go_wp2
            go_roundw
            case rel => exact ⟨m + 1, true, by go_num, rfl, hml, HG2, HK3⟩
            case measure => simp [intOf]; omega
          | false =>
            have hng : x.sync ∉ zs.take m := fun h => (by have := HG.out.2 h; cases this)
            go_quiet (fail)
            have HK3 := Lib.hid (HK2.out.drewN nq)
            have HG2 : Hid ((z == x.sync) = true ↔ x.sync ∈ zs.take (m + 1)) := by unfold Hid; rw [HZT.out]; simp [hng]; exact eq_comm
            go_wp2
            go_roundw
            case rel => exact ⟨m + 1, z == x.sync, by go_num, rfl, hml, HG2, HK3⟩
            case measure => simp [intOf]; omega
        · have hml' : ¬ (m : Int) < (zs.length : Int) := by omega
          obtain rfl : m = zs.length := by omega
          rw [List.take_length] at HG
          cases gb with
          | true =>
            have HF2 : Hid (ol = (rs.take (j + 1)).filter (fun e => !decide (e.sync ∈ zs))) := by unfold Hid; rw [HXT.out, List.filter_append, ← HF.out]; simp [HG.out.1 rfl]
            go_wp2
            go_roundw
            case rel => exact ⟨j + 1, ol, oa, oc, by go_num, hjl, by omega, HF2, HK2⟩
            case measure => simp [intOf]; omega
          | false =>
            have hng : x.sync ∉ zs := fun h => (by have := HG.out.2 h; cases this)
            have HF2 : Hid (ol ++ [x] = (rs.take (j + 1)).filter (fun e => !decide (e.sync ∈ zs))) := by unfold Hid; rw [HXT.out, List.filter_append, ← HF.out]; simp [hng]
            obtain ⟨q0, qf, hl6, _, _⟩ := HK2.out.c1 3 rfl
            have HKx := Lib.hid (HK2.out.alloc 27 #[.int .i64 x.sync, .int .i64 x.thread, .int .i64 x.branch, .int .i64 x.flag, .int .i64 x.v.kind, .int .i64 x.v.num, .slice x.v.addr x.v.parts.length x.v.cap]).drew
            simp only [List.nil_append, List.cons_append] at HKx
            go_wp2_with fail
            go_region_law (first
              | (refine step_append_S _ rfl (.tmp 40) (.tmp 46) 32 rfl 27 i0 _ 7 72 Try.underlying32 hi0 iz0 iz1 iz2 rfl (by decide) (.slice oa ol.length oc) ol.length (entCells ol) (by first | rfl | simp [Act.eval, Act.put]) (HKx.out.rowSAt 4 rfl) (some ⟨wr.heap.size, 0, none⟩) 1 1 x.cells (by first | rfl | simp [Act.eval, Act.put]) rfl (.inr ⟨_, rfl, (HKx.out.box 5 rfl).src⟩) (cells_one x) (by simp only [maxLen]; omega) (by omega) ?_; intro a5 c5 w5 hown hgrow hat; have HL5 := Lib.hid (HKx.out.grownS 4 rfl hgrow hown hat); simp only [List.set_cons_succ, List.set_cons_zero] at HL5; clear hown hgrow hat v0 vf hl2 p0 p1 p2 p3 p4 p5 p6 q0 qf hl6; obtain ⟨q0, qf, hl6, _, _⟩ := HL5.out.c1 3 rfl))
            all_goals
              have HL6 : Hid (Led T w (w5.setCell ⟨b6, 0, none⟩ (.slice a5 (ol.length + 1) c5)) [stillT P, box b2 54 #[.slice (some ⟨b, o, none⟩) rs.length cap], box b4 54 #[.slice none 0 0], box b6 54 #[.slice a5 (ol ++ [x]).length c5], rowT 27 7 (.slice a5 (ol ++ [x]).length c5) (ol ++ [x]).length (entCells (ol ++ [x]))]) := by
                have h := HL5.out.set 3 rfl 0 (.slice a5 (ol.length + 1) c5)
                rw [entCells_append, show entCells [x] = x.cells from (by simp [entCells]), show (ol ++ [x]).length = ol.length + 1 from (by simp)]
                exact h.sel [0, 1, 2, 3, 4] rfl (by decide)
              clear HL5 HKx
              go_wp2
              go_roundw
              case rel => exact ⟨j + 1, ol ++ [x], a5, c5, by go_num, hjl, by simp; omega, HF2, HL6⟩
              case measure => simp [intOf]; omega
    · have hjl' : ¬ (j : Int) < (rs.length : Int) := by omega
      obtain rfl : j = rs.length := by omega
      rw [List.take_length] at HF
      obtain ⟨q0, qf, hl6, _, _⟩ := HK.out.c1 3 rfl
      obtain ⟨u0, uf, hl4, _, _⟩ := HK.out.c1 2 rfl
      have n1 := HK.out.ne 1 2 rfl rfl (by decide)
      have n2 := HK.out.ne 2 3 rfl rfl (by decide)
      have m1 := Ne.symm n1
      have m2 := Ne.symm n2
      go_wp2_with fail
      go_region_held3 (fun w' => w'.cell? ⟨b2, 0, none⟩ = some (.slice a rs.length cap) ∧ w'.cell? ⟨b6, 0, none⟩ = some (.slice oa ol.length oc)) (go_keep) (fail)
      have hwk : IntKind.i64.wrap ((rs.length : Int) - (ol.length : Int)) = (rs.length : Int) - (ol.length : Int) := IntWalk.i64_in _ (by omega)
      rw [hwk]
      go_wp2
      have HL6 := Lib.hid (HK.out.set 2 rfl 0 (.slice oa ol.length oc)).drew
      simp only [List.set_cons_succ, List.set_cons_zero, List.setIfInBounds_toArray] at HL6
      obtain ⟨s0, _⟩ := HL6.out.c1 2 rfl
      refine bodyPost_ret (v := .tuple #[.agg #[.slice oa ol.length oc], .int .i64 ((rs.length : Int) - (ol.length : Int))]) (by simp [results, Try.results72, go_sem, s0]) rfl ?_
      exact ⟨oa, oc, ol, HF.out, rfl, rowS_le (HL6.out.rowSAt 4 rfl), Grew.made (cap := oc) rfl (HL6.out.sel [0, 4] rfl (by decide))⟩
end Go.Proofs.Ytihmbgdkllmkaaa
