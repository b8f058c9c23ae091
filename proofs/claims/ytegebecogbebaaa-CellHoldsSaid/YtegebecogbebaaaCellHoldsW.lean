/-
  CellHolds (betrothallaw01/law.go): its walk: for every number of cells and every slice of calls it returns true, and nothing that was there has turned.
-/
import Derived.Test.YtegebecogbebaaaWorks01
import Derived.Test.YtegebecogbebaaaCellPlain
import Derived.Test.YtegebecogbebaaaOpen
import Derived.Test.YtegebecogbebaaaAppendIn
import Derived.Test.YtegebecogbebaaaQuietRound
import Derived.RegionIn
import Derived.BigRegionIn
import Derived.Sort.QuietIn
import Derived.Stop.RegionWithIn
namespace Go.Proofs.Ytegebecogbebaaa
open Go.RowKit Go.Shelf
set_option maxRecDepth 100000
set_option linter.unusedVariables false
set_option linter.unusedSimpArgs false
attribute [local go_sem] Oper.semAt_some
/-- The wide fence asks nothing. -/
theorem askedIn_wide {P : Program} {o : Oper} {a : Act} {C : World → Prop} : o.askedIn Fence.wide P a C := fun _ _ _ _ => trivial
attribute [local go_sem ↓ high] askedIn_wide

/-- A call of law 01: what, where, two numbers. -/
structure Act01 where
  what : Int
  at_ : Int
  x : Nat
  y : Nat
def Act01.cells (a : Act01) : List Value := [.int .i64 a.what, .int .i64 a.at_, .int .u64 (a.x : Int), .int .u64 (a.y : Int)]
def Act01.Ok (a : Act01) : Prop := (-9223372036854775808 ≤ a.what ∧ a.what ≤ 9223372036854775807) ∧ (-9223372036854775808 ≤ a.at_ ∧ a.at_ ≤ 9223372036854775807) ∧ Wd a.x ∧ Wd a.y



set_option maxHeartbeats 2000000 in
theorem cellHolds_out (n : Nat) (cells : Int) (a1 : Option Addr) (n1 c1 : Nat) (w : World) (hn1 : n1 ≤ 9223372036854775807) (h : cells < 1 ∨ 200 < cells ∨ 60 < n1) :
    CallsIn Fence.wide n Try.prog 4 #[.int .i64 cells, .slice a1 n1 c1] w fun e w' => e = .returned (.bool true) ∧ Below w.heap.size w w' := by
  have HR : Hid (Blk ((w.alloc (.cells #[.int .i64 cells] 3)).alloc (.cells #[.bool false] 4)) (w.heap.size + 1) 4 #[.bool false]) := by have := Blk.new (w.alloc (.cells #[.int .i64 cells] 3)) 4 #[.bool false]; rw [World.size_alloc] at this; exact this
  have HBB := Lib.hid (((Below.refl w.heap.size w).alloc (Nat.le_refl _) (.cells #[.int .i64 cells] 3)).alloc (by simp) (.cells #[.bool false] 4))
  by_cases h1 : cells < 1
  · refine callsIn_of_wp_marks Try.func4 rfl trivial ?_ rfl
    simp only [Try.ntmps4, List.size_toArray, List.length_cons, List.length_nil, Nat.reduceAdd, Nat.reduceSub, Array.replicate_succ, Array.replicate_zero, List.push_toArray, List.append_toArray, List.nil_append, List.cons_append]
    gi_wp2_with fail
    refine ⟨trivial, nodepth, ?_⟩
    refine (callsIn_wide.2 (works01 _)).mono ?_
    rintro e w1 ⟨rfl, hb⟩
    have HB1 := Lib.hid hb
    have HR1 := Lib.hid (HR.out.touch (Touch.of_below hb []) (by simp))
    have c0 := HR1.out.cell 0
    have f0 := HR1.out.frozen 0
    simp at c0
    clear hb
    gi_wp2
    have hb2 := (HR1.out.set 0 (.bool true)).cell 0
    simp only [List.setIfInBounds_toArray, List.set_cons_zero, List.getElem?_toArray, List.getElem?_cons_zero] at hb2
    exact leave_marks (v := .bool true) [] _ (by simp) (by simp) (by simp [shutAll, results, Try.results4, go_sem, hb2]) ⟨rfl, (HBB.out.trans (HB1.out.mono (by simp; omega))).setCell (p := ⟨w.heap.size + 1, 0, none⟩) (show w.heap.size ≤ w.heap.size + 1 by omega) _⟩
  · by_cases h2 : 200 < cells
    · refine callsIn_of_wp_marks Try.func4 rfl trivial ?_ rfl
      simp only [Try.ntmps4, List.size_toArray, List.length_cons, List.length_nil, Nat.reduceAdd, Nat.reduceSub, Array.replicate_succ, Array.replicate_zero, List.push_toArray, List.append_toArray, List.nil_append, List.cons_append]
      gi_wp2_with fail
      refine ⟨trivial, nodepth, ?_⟩
      refine (callsIn_wide.2 (works01 _)).mono ?_
      rintro e w1 ⟨rfl, hb⟩
      have HB1 := Lib.hid hb
      have HR1 := Lib.hid (HR.out.touch (Touch.of_below hb []) (by simp))
      have c0 := HR1.out.cell 0
      have f0 := HR1.out.frozen 0
      simp at c0
      clear hb
      gi_wp2
      have hb2 := (HR1.out.set 0 (.bool true)).cell 0
      simp only [List.setIfInBounds_toArray, List.set_cons_zero, List.getElem?_toArray, List.getElem?_cons_zero] at hb2
      exact leave_marks (v := .bool true) [] _ (by simp) (by simp) (by simp [shutAll, results, Try.results4, go_sem, hb2]) ⟨rfl, (HBB.out.trans (HB1.out.mono (by simp; omega))).setCell (p := ⟨w.heap.size + 1, 0, none⟩) (show w.heap.size ≤ w.heap.size + 1 by omega) _⟩
    · have h3 : (60 : Int) < (n1 : Int) := by omega
      clear h
      refine callsIn_of_wp_marks Try.func4 rfl trivial ?_ rfl
      simp only [Try.ntmps4, List.size_toArray, List.length_cons, List.length_nil, Nat.reduceAdd, Nat.reduceSub, Array.replicate_succ, Array.replicate_zero, List.push_toArray, List.append_toArray, List.nil_append, List.cons_append]
      gi_wp2_with fail
      refine ⟨trivial, nodepth, ?_⟩
      refine (callsIn_wide.2 (works01 _)).mono ?_
      rintro e w1 ⟨rfl, hb⟩
      have HB1 := Lib.hid hb
      have HR1 := Lib.hid (HR.out.touch (Touch.of_below hb []) (by simp))
      have c0 := HR1.out.cell 0
      have f0 := HR1.out.frozen 0
      simp at c0
      clear hb
      gi_wp2
      have hb2 := (HR1.out.set 0 (.bool true)).cell 0
      simp only [List.setIfInBounds_toArray, List.set_cons_zero, List.getElem?_toArray, List.getElem?_cons_zero] at hb2
      exact leave_marks (v := .bool true) [] _ (by simp) (by simp) (by simp [shutAll, results, Try.results4, go_sem, hb2]) ⟨rfl, (HBB.out.trans (HB1.out.mono (by simp; omega))).setCell (p := ⟨w.heap.size + 1, 0, none⟩) (show w.heap.size ≤ w.heap.size + 1 by omega) _⟩

/-- So many zeros, behind a name. -/
def zerosArr (m : Nat) : Array Value := (List.replicate m (Value.int .u64 0)).toArray
theorem alloc_all (m : Nat) (hm : 1 ≤ m) : (Ar.fresh m).allocA (m : Int) = (⟨List.replicate m 0, m, []⟩, 0, 0) := by
  unfold Ar.allocA
  rw [if_neg (by omega), if_neg (by simp [Ar.fresh])]
  simp [Ar.fresh]
/-- What holds between two rounds of the first loop. -/
structure Loop1 (B : Nat) (w wx : World) (g m bc br ba k : Nat) (s : Ar) (ax : List Nat) (va : Value) : Prop where
  good : Good m ax s
  wk : Wk (sb va) B w wx g s
  res : Blk wx br 4 #[.bool false]
  cel : Blk wx bc 3 #[.int .i64 (m : Int)]
  ask : Blk wx ba 38 #[va]
  own : wx.ownsRow 0 39 1 va ax.length (words ax)
  few : s.L.length ≤ k
  new : ∀ j ∈ sb va, B ≤ j
  wd : ∀ x ∈ ax, Wd x
theorem Loop1.touch {B : Nat} {w wx wy : World} {g m bc br ba k : Nat} {s : Ar} {ax : List Nat} {va : Value} (h : Loop1 B w wx g m bc br ba k s ax va) (hB : B ≤ w.heap.size) (ht : Touch [] wx wy) : Loop1 B w wy g m bc br ba k s ax va :=
  ⟨h.good, h.wk.touch hB ht (by simp) (by simp), h.res.touch ht (by simp), h.cel.touch ht (by simp), h.ask.touch ht (by simp), own_touch h.own ht (by simp), h.few, h.new, h.wd⟩
theorem Loop1.app {B : Nat} {w wB w4 w5 : World} {g m bc br ba k gg cap x : Nat} {s s' : Ar} {ax : List Nat} {va : Value} (h : Loop1 B w wB g m bc br ba k s ax va) (hB : B ≤ w.heap.size) (hbaB : B ≤ ba)
    (hgood : Good m (ax ++ [x]) s') (hfew : s'.L.length ≤ k + 1) (hxw : Wd x) (hW : Wk (sb va) B w w4 g s') (hK : Keep wB w4) (hS : Same (sb va) wB w4)
    (hown : w5.ownsRow 0 39 1 (.slice (some ⟨gg, 0, none⟩) (ax.length + 1) cap) (ax.length + 1) (words ax ++ [.int .u64 (x : Int)])) (hgrow : (w4.alloc (.cells #[.int .u64 (x : Int)] 39)).grownBy w5 va.ownBlock)
    (hat : va.ownBlock = some gg ∨ gg = (w4.alloc (.cells #[.int .u64 (x : Int)] 39)).heap.size) :
    Loop1 B w (w5.setCell ⟨ba, 0, none⟩ (.slice (some ⟨gg, 0, none⟩) (ax.length + 1) cap)) g m bc br ba (k + 1) s' (ax ++ [x]) (.slice (some ⟨gg, 0, none⟩) (ax.length + 1) cap) := by
  have hz := hW.size hB
  have ht5 : Touch (sb va) w4 w5 := ((Touch.refl (sb va) w4).alloc _).grown hgrow (fun j hj => .inl (by simp [sb, hj]))
  have hask4 := hK _ _ _ h.ask (by unfold Other; decide)
  have hown4 : w4.ownsRow 0 39 1 va ax.length (words ax) := own_keep h.own hS
  have hask5 : Blk w5 ba 38 #[va] := hask4.touch ht5 (own_ne hown4 hask4 (by decide))
  have hW5 : Wk (gg :: sb va) B w w5 g s' := by
    obtain ⟨fp, hI, hf, hb, hl⟩ := hW
    refine ⟨fp, hI.touch ht5 (fun j hj => (hf j hj).2), fun j hj => ⟨(hf j hj).1, ?_⟩, hb.trans (ht5.below_of hz h.new), ?_⟩
    · simp only [List.mem_cons, not_or]
      refine ⟨?_, (hf j hj).2⟩
      rintro rfl
      rcases hat with h1 | h1
      · exact (hf j hj).2 (by simp [sb, h1])
      · have := hI.lt j hj; rw [h1, World.size_alloc] at this; omega
    · intro j hj
      simp only [List.mem_cons] at hj
      rcases hj with rfl | hj
      · exact own_lt hown j (by simp [sb, Value.ownBlock])
      · exact Nat.lt_of_lt_of_le (hl j hj) ht5.size
  have hkeep : ∀ b t cs, Blk wB b t cs → Other t → Blk w5 b t cs := fun b t cs hb ho => (hK b t cs hb ho).touch ht5 (own_ne hown4 (hK b t cs hb ho) ho.2.2)
  have hne : ba ∉ sb (.slice (some ⟨gg, 0, none⟩) (ax.length + 1) cap) := own_ne hown hask5 (by decide)
  refine ⟨hgood, (hW5.setCell hask5 (by unfold Other; decide) hbaB 0 _).sub (by simp [sb, Value.ownBlock]), (hkeep _ _ _ h.res (by unfold Other; decide)).far (h.res.ne h.ask (by decide)) _, (hkeep _ _ _ h.cel (by unfold Other; decide)).far (h.cel.ne h.ask (by decide)) _, ?_, ?_, hfew, ?_, ?_⟩
  · have := hask5.set 0 (.slice (some ⟨gg, 0, none⟩) (ax.length + 1) cap)
    simpa using this
  · have := own_setCell hown ⟨ba, 0, none⟩ (.slice (some ⟨gg, 0, none⟩) (ax.length + 1) cap) hne
    rw [words_append]
    simpa [words] using this
  · intro j hj
    have : j = gg := by simpa [sb, Value.ownBlock] using hj
    subst this
    rcases hat with h1 | h1
    · exact h.new j (by simp [sb, h1])
    · rw [h1, World.size_alloc]; omega
  · intro z hz'
    rcases List.mem_append.1 hz' with h1 | h1
    · exact h.wd z h1
    · simp at h1; rw [h1]; exact hxw
theorem madeCells_one (z : Value) (k : Nat) : madeCells #[z] k = (List.replicate k z).toArray := by
  apply Array.ext
  · simp [madeCells]
  · intro i h1 h2
    simp [madeCells, Nat.mod_one]
theorem made_words (m : Nat) (hm : m ≤ 200) (W : World) : (Instr.makeSlice 38 (.int .i64 (m : Int)) (.int .i64 (m : Int))).run Try.prog W =
    .ok (.slice (some ⟨W.heap.size, 0, none⟩) m m) (W.alloc (.cells (zerosArr m) 39)) := by
  obtain ⟨i0, hi, iz0, iz1, iz2⟩ := info_parts info_uint64
  have hr := run_make (P := Try.prog) W 38 39 i0 _ Try.underlying38 hi iz0 .i64 .i64 m m (by omega) (by omega) (by rw [iz2]; omega) (by omega)
  rw [iz1] at hr
  simpa [Value.cells, madeCells_one, zerosArr] using hr
theorem own_zeros (m : Nat) (hm : m ≤ 200) (W : World) : (W.alloc (.cells (zerosArr m) 39)).ownsRow 0 39 1 (.slice (some ⟨W.heap.size, 0, none⟩) m m) m (words (List.replicate m 0)) :=
  ⟨by simp [words_length], .inr ⟨W.heap.size, m, zerosArr m, rfl, Nat.zero_le _, heap_alloc_new W _, Nat.le_refl _, by simp only [maxLen]; omega, by simp [zerosArr], by simp [zerosArr, words]⟩⟩
/-- What holds between two rounds of the loop over the log. -/
structure Loop2 (S : List Nat) (B : Nat) (w W : World) (g m bc br ba bh bn gh bl bf gg k : Nat) (s : Ar) (ax : List Nat) (va : Value) : Prop where
  wk : Wk (S ++ (bl :: bf :: gg :: gh :: sb va)) B w W g s
  log : LogAt W bl bf gg s.L
  res : Blk W br 4 #[.bool false]
  cel : Blk W bc 3 #[.int .i64 (m : Int)]
  ask : Blk W ba 38 #[va]
  own : W.ownsRow 0 39 1 va ax.length (words ax)
  has : Blk W bh 38 #[.slice (some ⟨gh, 0, none⟩) m m]
  row : W.ownsRow 0 39 1 (.slice (some ⟨gh, 0, none⟩) m m) m (words (hasOf m (s.L.take k)))
  num : Blk W bn 3 #[.int .i64 (k : Int)]
theorem Loop2.lt {S : List Nat} {B : Nat} {w W : World} {g m bc br ba bh bn gh bl bf gg k : Nat} {s : Ar} {ax : List Nat} {va : Value} (h : Loop2 S B w W g m bc br ba bh bn gh bl bf gg k s ax va) :
    ∀ b ∈ [br, bc, ba, bh, bn, gh, bl, bf, gg] ++ sb va, b < W.heap.size := by
  intro b hb
  simp only [List.mem_append, List.mem_cons, List.not_mem_nil, or_false] at hb
  rcases hb with (rfl | rfl | rfl | rfl | rfl | rfl | rfl | rfl | rfl) | hb
  · exact h.res.lt
  · exact h.cel.lt
  · exact h.ask.lt
  · exact h.has.lt
  · exact h.num.lt
  · exact own_lt h.row b (by simp [sb, Value.ownBlock])
  · exact h.log.lt b (by simp)
  · exact h.log.lt b (by simp)
  · exact h.log.lt b (by simp)
  · exact own_lt h.own b hb
theorem Loop2.keep {S S' : List Nat} {B : Nat} {w W W' : World} {g m bc br ba bh bn gh bl bf gg k : Nat} {s : Ar} {ax : List Nat} {va : Value} (h : Loop2 S B w W g m bc br ba bh bn gh bl bf gg k s ax va)
    (hwk : Wk (S' ++ (bl :: bf :: gg :: gh :: sb va)) B w W' g s) (he : ∀ b ∈ [br, bc, ba, bh, bn, gh, bl, bf, gg] ++ sb va, W'.heap[b]? = W.heap[b]?) : Loop2 S' B w W' g m bc br ba bh bn gh bl bf gg k s ax va :=
  ⟨hwk, h.log.keep (fun b hb => he b (by simp at hb ⊢; rcases hb with h | h | h <;> simp [h])), h.res.keep (he _ (by simp)), h.cel.keep (he _ (by simp)), h.ask.keep (he _ (by simp)), own_keep h.own (fun b hb => he b (by simp [hb])), h.has.keep (he _ (by simp)),
    own_keep h.row (fun b hb => he b (by have : b = gh := by simpa [sb, Value.ownBlock] using hb
                                         simp [this])), h.num.keep (he _ (by simp))⟩
theorem Loop2.step {S : List Nat} {B : Nat} {w W : World} {g m bc br ba bh bn gh bl bf gg k : Nat} {s : Ar} {ax : List Nat} {va : Value} (h : Loop2 S B w W g m bc br ba bh bn gh bl bf gg k s ax va)
    (x : Acc) (hx : s.L[k]? = some x) (hgB : B ≤ gh) (hnB : B ≤ bn) (hbn : ∀ b ∈ [br, bc, ba, bh, gh, bl, bf, gg] ++ sb va, b ≠ bn) (hgh : ∀ b ∈ [bl, bf, gg] ++ sb va, gh ≠ b) :
    Loop2 S B w ((W.setCell ⟨gh, x.at_, none⟩ (.int .u64 (x.new : Int))).setCell ⟨bn, 0, none⟩ (.int .i64 ((k : Int) + 1))) g m bc br ba bh bn gh bl bf gg (k + 1) s ax va := by
  have hin : ∀ b, b ∉ sb (.slice (some ⟨gh, 0, none⟩) m m) → b ≠ gh := fun b hb hc => hb (by simp [sb, Value.ownBlock, hc])
  have r1 := hin _ (own_ne h.row h.res (by decide))
  have r2 := hin _ (own_ne h.row h.cel (by decide))
  have r3 := hin _ (own_ne h.row h.ask (by decide))
  have r4 := hin _ (own_ne h.row h.has (by decide))
  have r5 := hin _ (own_ne h.row h.num (by decide))
  have hnum : Blk (W.setCell ⟨gh, x.at_, none⟩ (.int .u64 (x.new : Int))) bn 3 #[.int .i64 (k : Int)] := h.num.far r5 _
  have he : ∀ b, b ≠ gh → b ≠ bn → ((W.setCell ⟨gh, x.at_, none⟩ (.int .u64 (x.new : Int))).setCell ⟨bn, 0, none⟩ (.int .i64 ((k : Int) + 1))).heap[b]? = W.heap[b]? := fun b h1 h2 =>
    (Below.heap_setCell _ _ _ b h2).trans (Below.heap_setCell _ _ _ b h1)
  refine ⟨(h.wk.setS (b := gh) (by simp) hgB _ _).setCell hnum (by unfold Other; decide) hnB 0 _, h.log.keep (fun b hb => he b (fun hc => hgh b (List.mem_append_left _ hb) hc.symm) (hbn b (by simp at hb ⊢; rcases hb with h | h | h <;> simp [h]))), h.res.keep (he _ r1 (hbn _ (by simp))), h.cel.keep (he _ r2 (hbn _ (by simp))), h.ask.keep (he _ r3 (hbn _ (by simp))),
    own_keep h.own (fun b hb => he b (fun hc => hgh b (List.mem_append_right _ hb) hc.symm) (hbn b (List.mem_append_right _ hb))), h.has.keep (he _ r4 (hbn _ (by simp))), ?_, ?_⟩
  · have := own_setCell (own_set h.row x.at_ (.int .u64 (x.new : Int))) ⟨bn, 0, none⟩ (.int .i64 ((k : Int) + 1)) (by simp [sb, Value.ownBlock]; exact r5)
    rw [← words_set] at this
    have e : hasOf m (s.L.take (k + 1)) = (hasOf m (s.L.take k)).set x.at_ x.new := by
      rw [List.take_add_one, hx]
      exact hasOf_snoc _ _ _
    rw [e]
    exact this
  · have := hnum.set 0 (.int .i64 ((k : Int) + 1))
    simpa using this
/-- What holds between two rounds of the last loop. -/
structure Loop3 (B : Nat) (w W : World) (g m bc br ba bh bn gh D k N : Nat) (H : List Nat) (s : Ar) (va : Value) : Prop where
  wk : Wk [D, gh] B w W g s
  C : s.C = H
  few : s.L.length ≤ 60 + k
  res : Blk W br 4 #[.bool false]
  cel : Blk W bc 3 #[.int .i64 (m : Int)]
  ask : Blk W ba 38 #[va]
  has : Blk W bh 38 #[.slice (some ⟨gh, 0, none⟩) m m]
  row : W.ownsRow 0 39 1 (.slice (some ⟨gh, 0, none⟩) m m) m (words H)
  num : Blk W bn 3 #[.int .i64 (N : Int)]
  mark : W.heap[D]? = some (.deferred (some []))
theorem Loop3.load {B : Nat} {w W W' : World} {g m bc br ba bh bn gh D k N : Nat} {H : List Nat} {s s' : Ar} {va : Value} (h : Loop3 B w W g m bc br ba bh bn gh D k N H s va) (hw : Wk [D, gh] B w W' g s') (hK : Keep W W') (hS : Same [D, gh] W W') (hC : s'.C = s.C) (hL : s'.L.length = s.L.length + 1) :
    Loop3 B w W' g m bc br ba bh bn gh D (k + 1) N H s' va :=
  ⟨hw, hC.trans h.C, by have := h.few; omega, hK _ _ _ h.res (by unfold Other; decide), hK _ _ _ h.cel (by unfold Other; decide), hK _ _ _ h.ask (by unfold Other; decide), hK _ _ _ h.has (by unfold Other; decide),
    own_keep h.row (fun b hb => hS b (by have : b = gh := by simpa [sb, Value.ownBlock] using hb
                                         simp [this])), hK _ _ _ h.num (by unfold Other; decide), (hS D (by simp)).trans h.mark⟩
theorem Loop3.drewN {B : Nat} {w W : World} {g m bc br ba bh bn gh D k N : Nat} {H : List Nat} {s : Ar} {va : Value} (h : Loop3 B w W g m bc br ba bh bn gh D k N H s va) (n : Nat) : Loop3 B w (W.drewN n) g m bc br ba bh bn gh D k N H s va :=
  ⟨h.wk.drewN n, h.C, h.few, h.res, h.cel, h.ask, h.has, own_drewN h.row n, h.num, h.mark⟩
theorem set_getD (l : List Nat) (i : Nat) : l.set i (l.getD i 0) = l := by
  apply List.ext_getElem
  · simp
  · intro j h1 h2
    rw [List.getElem_set]
    split
    · subst_vars; simp [List.getD, h2]
    · rfl
theorem load_C {s : Ar} {k : Nat} (hk : k < s.C.length) : (s.load (k : Int)).1.C = s.C := by
  simp only [Ar.load, Ar.doBy]; rw [if_pos ⟨by omega, by omega⟩]
  simp only [Ar.acc, chgLoad, Int.toNat_natCast, if_true]
  exact set_getD _ _
theorem load_old {s : Ar} {k : Nat} (hk : k < s.C.length) : (s.load (k : Int)).2.1.old = s.C[k] := by
  simp only [Ar.load, Ar.doBy]; rw [if_pos ⟨by omega, by omega⟩]
  simp [List.getD, hk]
theorem quietIn_left {P : Program} {f : FuncId} {args : Array Value} {w : World} {k r : Nat} {v : Value} (h : Calls P f args (w.drewN k) fun e w' => e = .returned v ∧ w.drewN k = w') :
    CallsIn Fence.wide r P f args (w.drewN k) fun e w'' => e = .returned v ∧ ∃ m, w'' = w.drewN m := callsIn_wide.2 (h.mono fun _ _ ⟨he, hm⟩ => ⟨he, k, hm.symm⟩)
theorem other_act : Other 41 := by unfold Other; decide
theorem other_sl : Other 38 := by unfold Other; decide
theorem good_fresh (m : Nat) : Good m [] ⟨List.replicate m 0, m, []⟩ := ⟨rfl, rfl, fun j hj => by simp at hj⟩

set_option maxHeartbeats 8000000 in
theorem cellHolds_in (n : Nat) (m : Nat) (a1 : Option Addr) (n1 c1 : Nat) (l : List Act01) (w : World) (hm1 : 1 ≤ m) (hm2 : m ≤ 200) (hn1 : n1 ≤ 60) (hll : l.length = n1) (hl : StructsAt w a1 4 Act01.cells l) (hok : ∀ a ∈ l, a.Ok) :
    CallsIn Fence.wide n Try.prog 4 #[.int .i64 (m : Int), .slice a1 n1 c1] w fun e w' => e = .returned (.bool true) ∧ Below w.heap.size w w' := by
  have hB := Nat.le_refl w.heap.size
  obtain ⟨i0, hi, iz0, iz1, iz2⟩ := info_parts info_uint64
  have HR : Hid (Blk ((w.alloc (.cells #[.int .i64 (m : Int)] 3)).alloc (.cells #[.bool false] 4)) (w.heap.size + 1) 4 #[.bool false]) := by have := Blk.new (w.alloc (.cells #[.int .i64 (m : Int)] 3)) 4 #[.bool false]; rw [World.size_alloc] at this; exact this
  have HC : Hid (Blk ((w.alloc (.cells #[.int .i64 (m : Int)] 3)).alloc (.cells #[.bool false] 4)) w.heap.size 3 #[.int .i64 (m : Int)]) := (Blk.new w _ _).alloc _
  have HBB := Lib.hid (((Below.refl w.heap.size w).alloc (Nat.le_refl _) (.cells #[.int .i64 (m : Int)] 3)).alloc (by simp) (.cells #[.bool false] 4))
  have HL := Lib.hid hl
  have HLL := Lib.hid hll
  have HOK := Lib.hid hok
  have h1 : ¬ (m : Int) < 1 := by omega
  have h2 : ¬ 200 < (m : Int) := by omega
  have h3 : ¬ (60 : Int) < (n1 : Int) := by omega
  clear hl hll hok
  refine callsIn_of_wp_marks Try.func4 rfl trivial ?_ rfl
  simp only [Try.ntmps4, List.size_toArray, List.length_cons, List.length_nil, Nat.reduceAdd, Nat.reduceSub, Array.replicate_succ, Array.replicate_zero, List.push_toArray, List.append_toArray, List.nil_append, List.cons_append]
  gi_wp2_with fail
  refine ⟨trivial, nodepth, ?_⟩
  refine (callsIn_wide.2 (Wk.New (S := []) hB m (by omega) (by omega) HBB.out (by simp))).mono ?_
  rintro e w1 ⟨rfl, hW, hK, _, hz⟩
  obtain ⟨g, hg⟩ : ∃ g, ((w.alloc (.cells #[.int .i64 (m : Int)] 3)).alloc (.cells #[.bool false] 4)).heap.size = g := ⟨_, rfl⟩
  rw [hg] at hW ⊢
  have HW1 := Lib.hid hW
  have HR1 := Lib.hid (hK _ _ _ HR.out other_bool)
  have HC1 := Lib.hid (hK _ _ _ HC.out other_int)
  have cc1 := HC1.out.cell 0
  simp at cc1
  clear hW hK hg
  gi_wp2_with fail
  refine ⟨trivial, nodepth, ?_⟩
  refine (callsIn_wide.2 (HW1.out.Alloc hB (m : Int) _ _ _ (alloc_all m hm1))).mono ?_
  rintro e w2 ⟨rfl, hW, hK, hS, hz2⟩
  have HW2 := Lib.hid hW
  have HR2 := Lib.hid (hK _ _ _ HR1.out other_bool)
  have HC2 := Lib.hid (hK _ _ _ HC1.out other_int)
  clear hW hK hS
  gi_wp2_with fail
  obtain ⟨w3, hw3⟩ : ∃ w3, w2.alloc (.cells #[.slice none 0 0] 38) = w3 := ⟨_, rfl⟩
  obtain ⟨ba, hba⟩ : ∃ ba, w2.heap.size = ba := ⟨_, rfl⟩
  have HL3 : Hid (Loop1 w.heap.size w w3 g m w.heap.size (w.heap.size + 1) ba 0 ⟨List.replicate m 0, m, []⟩ [] (.slice none 0 0)) := by
    rw [← hw3, ← hba]
    exact ⟨good_fresh m, HW2.out.alloc (HW2.out.size hB) _, HR2.out.alloc _, HC2.out.alloc _, Blk.new _ _ _, World.ownsRow_nil _ _ _ _, Nat.le_refl _, by simp [sb, Value.ownBlock], by simp⟩
  have hbaB : w.heap.size ≤ ba := by have := HW2.out.size hB; omega
  rw [hw3, hba]
  clear hw3 hba
  gi_loopw [10] (fun i wx => ∃ (k : Nat) (s : Ar) (ax : List Nat) (va : Value), k ≤ n1 ∧ i = .int .i64 (k : Int) ∧ Hid (Loop1 w.heap.size w wx g m w.heap.size (w.heap.size + 1) ba k s ax va)) (fun i _ => n1 - (intOf i).toNat)
  case atStart => exact ⟨0, _, _, _, Nat.zero_le _, rfl, HL3⟩
  case round =>
    obtain ⟨k, s, ax, va, hk, rfl, HX⟩ := hrel
    by_cases hlt : k < n1
    · have hlt' : (k : Int) < (n1 : Int) := by omega
      obtain ⟨b1, o1, rfl, hb1, hv1⟩ := HL.out k (by rw [HLL.out]; exact hlt)
      have hact := HOK.out (l[k]'(by rw [HLL.out]; exact hlt)) (List.getElem_mem _)
      generalize l[k]'(by rw [HLL.out]; exact hlt) = act at hv1 hact
      have c0 := (HX.out.wk.below.cell (p := ⟨b1, o1 + k * 4 + 0, none⟩) hb1).trans (hv1 0 (by omega))
      have c1 := (HX.out.wk.below.cell (p := ⟨b1, o1 + k * 4 + 1, none⟩) hb1).trans (hv1 1 (by omega))
      have c2 := (HX.out.wk.below.cell (p := ⟨b1, o1 + k * 4 + 2, none⟩) hb1).trans (hv1 2 (by omega))
      have c3 := (HX.out.wk.below.cell (p := ⟨b1, o1 + k * 4 + 3, none⟩) hb1).trans (hv1 3 (by omega))
      simp only [Act01.cells, List.getElem?_cons_succ, List.getElem?_cons_zero, Nat.add_zero] at c0 c1 c2 c3
      obtain ⟨what, at_, x, y⟩ := act
      obtain ⟨⟨hwh1, hwh2⟩, ⟨hat1, hat2⟩, hxw, hyw⟩ := hact
      simp only at hwh1 hwh2 hat1 hat2 hxw hyw c0 c1 c2 c3
      obtain ⟨r1, hr1, hr2, hr3⟩ : ∃ r1 : Int, at_.tmod (m : Int) = r1 ∧ -(m : Int) < r1 ∧ r1 < (m : Int) := ⟨_, rfl, by have := Int.lt_tmod_of_pos at_ (show (0 : Int) < (m : Int) by omega); omega, Int.tmod_lt_of_pos at_ (by omega)⟩
      obtain ⟨q, hq, hqm⟩ : ∃ q : Nat, (r1 + (m : Int)).tmod (m : Int) = (q : Int) ∧ q < m := by
        refine ⟨((r1 + (m : Int)).tmod (m : Int)).toNat, ?_, ?_⟩
        · have := Int.tmod_nonneg (m : Int) (show 0 ≤ r1 + (m : Int) by omega); omega
        · have := Int.tmod_lt_of_pos (r1 + (m : Int)) (show (0 : Int) < (m : Int) by omega); omega
      have cc := HX.out.cel.cell 0
      simp at cc
      have hclt := HX.out.cel.lt
      have HX1 := Lib.hid (HX.out.touch hB ((Touch.refl [] wr).alloc (.cells #[.int .i64 what, .int .i64 (q : Int), .int .u64 (x : Int), .int .u64 (y : Int)] 41)).drew)
      have HXB : Hid (Blk (wr.alloc (.cells #[.int .i64 what, .int .i64 (q : Int), .int .u64 (x : Int), .int .u64 (y : Int)] 41)).drew wr.heap.size 41 #[.int .i64 what, .int .i64 (q : Int), .int .u64 (x : Int), .int .u64 (y : Int)]) := (Blk.new wr _ _).drew
      obtain ⟨aa, cp, hva, hcp1, hcp2⟩ := own_val HX.out.own
      subst hva
      have hxl : ax.length ≤ 60 := by have := HX.out.good.len; have := HX.out.few; omega
      have HQ : Hid (q < s.C.length) := by have := HX.out.good.clen; unfold Hid; omega
      have hLb : s.L.length < 4611686018427387904 := by have := HX.out.few; omega
      have HWD : Hid (∀ z ∈ s.C, Wd z) := let ⟨_, ⟨_, _, _, hA, _⟩, _⟩ := HX.out.wk; hA.wd
      clear hv1
      gi_wp2_with fail
      gi_region
      all_goals gi_wp2_with fail
      · refine ⟨trivial, nodepth, ?_⟩
        refine (callsIn_wide.2 (HX1.out.wk.Load hB hLb (q : Int) _ _ _ rfl rfl rfl)).mono ?_
        rintro e w4 ⟨rfl, hW, hK, hS, hz4⟩
        have HW4 := Lib.hid hW
        have HK4 := Lib.hid hK
        have HS4 := Lib.hid hS
        have b4 := hK _ _ _ HX1.out.ask other_sl
        have x4 := hK _ _ _ HXB.out other_act
        have HB4 := Lib.hid b4
        have HO4 := Lib.hid (own_keep HX1.out.own hS)
        have p0 := b4.cell 0
        have p1 := b4.frozen 0
        have p2 := x4.cell 2
        simp at p0 p2
        have hbl4 := b4.lt
        have hxl4 := x4.lt
        clear hW hK hS b4 x4
        gi_wp2_with (gi_at_builtin; go_must (refine wpListIn_append_lies _ rfl (.tmp 104) (.tmp 107) 38 rfl 39 i0 (.int .u64 0) 1 8 Try.underlying38 hi iz0 iz1 iz2 rfl (by decide) (.slice aa ax.length cp) ax.length (words ax) rfl (HO4.out.alloc _) ⟨w4.heap.size, 0, none⟩ 1 1 [.int .u64 (x : Int)] rfl rfl (one_new _ _ _) (by simp [Value.oneCell']) (by omega) (by simp only [maxLen]; omega) (by omega) ?_); intro gg cap5 w5 hown hgrow hat hlt5; refine Hid.out ?_)
        have b5 := (HB4.out.alloc (.cells #[.int .u64 (x : Int)] 39)).grown hgrow (fun hh => own_ne (HO4.out.alloc (.cells #[.int .u64 (x : Int)] 39)) (HB4.out.alloc _) (by decide) (by simp [sb, ← hh]))
        have q0 := b5.cell 0
        have q1 := b5.frozen 0
        simp at q0
        have HL5 := Lib.hid (HX1.out.app (x := x) hB hbaB (HX1.out.good.step 1 q x hqm chgLoad (fun _ h => h) HWD.out (by omega) (fun _ => rfl) (fun _ _ => rfl)) (by rw [doBy_len HQ.out]; have := HX.out.few; omega) hxw HW4.out HK4.out HS4.out hown hgrow hat)
        clear hown hgrow hat b5
        refine Lib.hid ?_
        gi_wp2_with fail
        refine ⟨trivial, ?_⟩
        gi_wp2
        go_roundw
        case rel => exact ⟨k + 1, _, _, _, by omega, by go_num, HL5⟩
        case measure => simp [intOf]; omega
      · refine ⟨trivial, nodepth, ?_⟩
        refine (callsIn_wide.2 (HX1.out.wk.Store hB hLb (q : Int) x hxw _ _ rfl rfl)).mono ?_
        rintro e w4 ⟨rfl, hW, hK, hS, hz4⟩
        have HW4 := Lib.hid hW
        have HK4 := Lib.hid hK
        have HS4 := Lib.hid hS
        have b4 := hK _ _ _ HX1.out.ask other_sl
        have x4 := hK _ _ _ HXB.out other_act
        have HB4 := Lib.hid b4
        have HO4 := Lib.hid (own_keep HX1.out.own hS)
        have p0 := b4.cell 0
        have p1 := b4.frozen 0
        have p2 := x4.cell 2
        simp at p0 p2
        have hbl4 := b4.lt
        have hxl4 := x4.lt
        clear hW hK hS b4 x4
        gi_wp2_with (gi_at_builtin; go_must (refine wpListIn_append_lies _ rfl (.tmp 104) (.tmp 107) 38 rfl 39 i0 (.int .u64 0) 1 8 Try.underlying38 hi iz0 iz1 iz2 rfl (by decide) (.slice aa ax.length cp) ax.length (words ax) rfl (HO4.out.alloc _) ⟨w4.heap.size, 0, none⟩ 1 1 [.int .u64 (x : Int)] rfl rfl (one_new _ _ _) (by simp [Value.oneCell']) (by omega) (by simp only [maxLen]; omega) (by omega) ?_); intro gg cap5 w5 hown hgrow hat hlt5; refine Hid.out ?_)
        have b5 := (HB4.out.alloc (.cells #[.int .u64 (x : Int)] 39)).grown hgrow (fun hh => own_ne (HO4.out.alloc (.cells #[.int .u64 (x : Int)] 39)) (HB4.out.alloc _) (by decide) (by simp [sb, ← hh]))
        have q0 := b5.cell 0
        have q1 := b5.frozen 0
        simp at q0
        have HL5 := Lib.hid (HX1.out.app (x := x) hB hbaB (HX1.out.good.step 2 q x hqm (chgStore x) (fun _ _ => hxw) HWD.out (by omega) (fun _ => rfl) (fun h => by omega)) (by rw [doBy_len HQ.out]; have := HX.out.few; omega) hxw HW4.out HK4.out HS4.out hown hgrow hat)
        clear hown hgrow hat b5
        refine Lib.hid ?_
        gi_wp2_with fail
        refine ⟨trivial, ?_⟩
        gi_wp2
        go_roundw
        case rel => exact ⟨k + 1, _, _, _, by omega, by go_num, HL5⟩
        case measure => simp [intOf]; omega
      · cases hd : (s.swap (q : Int) x y).2.1.did with
        | false =>
          have HD := Lib.hid hd
          clear hd
          refine ⟨trivial, nodepth, ?_⟩
          refine (callsIn_wide.2 (HX1.out.wk.Swap hB hLb (q : Int) x y hxw hyw _ _ _ _ rfl rfl HD.out rfl)).mono ?_
          rintro e w4 ⟨rfl, hW, hK, hS, hz4⟩
          have HW4 := Lib.hid hW
          have HK4 := Lib.hid hK
          have HS4 := Lib.hid hS
          have b4 := hK _ _ _ HX1.out.ask other_sl
          have x4 := hK _ _ _ HXB.out other_act
          have HB4 := Lib.hid b4
          have HO4 := Lib.hid (own_keep HX1.out.own hS)
          have p0 := b4.cell 0
          have p1 := b4.frozen 0
          have p2 := x4.cell 2
          simp at p0 p2
          have hbl4 := b4.lt
          have hxl4 := x4.lt
          clear hW hK hS b4 x4
          gi_wp2_with (gi_at_builtin; go_must (refine wpListIn_append_lies _ rfl (.tmp 104) (.tmp 107) 38 rfl 39 i0 (.int .u64 0) 1 8 Try.underlying38 hi iz0 iz1 iz2 rfl (by decide) (.slice aa ax.length cp) ax.length (words ax) rfl (HO4.out.alloc _) ⟨w4.heap.size, 0, none⟩ 1 1 [.int .u64 (x : Int)] rfl rfl (one_new _ _ _) (by simp [Value.oneCell']) (by omega) (by simp only [maxLen]; omega) (by omega) ?_); intro gg cap5 w5 hown hgrow hat hlt5; refine Hid.out ?_)
          have b5 := (HB4.out.alloc (.cells #[.int .u64 (x : Int)] 39)).grown hgrow (fun hh => own_ne (HO4.out.alloc (.cells #[.int .u64 (x : Int)] 39)) (HB4.out.alloc _) (by decide) (by simp [sb, ← hh]))
          have q0 := b5.cell 0
          have q1 := b5.frozen 0
          simp at q0
          have HL5 := Lib.hid (HX1.out.app (x := x) hB hbaB (HX1.out.good.step 3 q x hqm (chgSwap x y) (fun _ _ => hyw) HWD.out (by omega) (fun _ => by simp [chgSwap]) (fun h => by omega)) (by rw [doBy_len HQ.out]; have := HX.out.few; omega) hxw HW4.out HK4.out HS4.out hown hgrow hat)
          clear hown hgrow hat b5
          refine Lib.hid ?_
          gi_wp2_with fail
          refine ⟨trivial, ?_⟩
          gi_wp2
          go_roundw
          case rel => exact ⟨k + 1, _, _, _, by omega, by go_num, HL5⟩
          case measure => simp [intOf]; omega
        | true =>
          have HD := Lib.hid hd
          clear hd
          refine ⟨trivial, nodepth, ?_⟩
          refine (callsIn_wide.2 (HX1.out.wk.Swap hB hLb (q : Int) x y hxw hyw _ _ _ _ rfl rfl HD.out rfl)).mono ?_
          rintro e w4 ⟨rfl, hW, hK, hS, hz4⟩
          have HW4 := Lib.hid hW
          have HK4 := Lib.hid hK
          have HS4 := Lib.hid hS
          have b4 := hK _ _ _ HX1.out.ask other_sl
          have x4 := hK _ _ _ HXB.out other_act
          have HB4 := Lib.hid b4
          have HO4 := Lib.hid (own_keep HX1.out.own hS)
          have p0 := b4.cell 0
          have p1 := b4.frozen 0
          have p2 := x4.cell 2
          simp at p0 p2
          have hbl4 := b4.lt
          have hxl4 := x4.lt
          clear hW hK hS b4 x4
          gi_wp2_with (gi_at_builtin; go_must (refine wpListIn_append_lies _ rfl (.tmp 104) (.tmp 107) 38 rfl 39 i0 (.int .u64 0) 1 8 Try.underlying38 hi iz0 iz1 iz2 rfl (by decide) (.slice aa ax.length cp) ax.length (words ax) rfl (HO4.out.alloc _) ⟨w4.heap.size, 0, none⟩ 1 1 [.int .u64 (x : Int)] rfl rfl (one_new _ _ _) (by simp [Value.oneCell']) (by omega) (by simp only [maxLen]; omega) (by omega) ?_); intro gg cap5 w5 hown hgrow hat hlt5; refine Hid.out ?_)
          have b5 := (HB4.out.alloc (.cells #[.int .u64 (x : Int)] 39)).grown hgrow (fun hh => own_ne (HO4.out.alloc (.cells #[.int .u64 (x : Int)] 39)) (HB4.out.alloc _) (by decide) (by simp [sb, ← hh]))
          have q0 := b5.cell 0
          have q1 := b5.frozen 0
          simp at q0
          have HL5 := Lib.hid (HX1.out.app (x := x) hB hbaB (HX1.out.good.step 3 q x hqm (chgSwap x y) (fun _ _ => hyw) HWD.out (by omega) (fun _ => by simp [chgSwap]) (fun h => by omega)) (by rw [doBy_len HQ.out]; have := HX.out.few; omega) hxw HW4.out HK4.out HS4.out hown hgrow hat)
          clear hown hgrow hat b5
          refine Lib.hid ?_
          gi_wp2_with fail
          refine ⟨trivial, nodepth, ?_⟩
          refine (callsIn_wide.2 (HL5.out.wk.Count (s.L.length + 1) (doBy_len HQ.out))).mono ?_
          rintro e w' ⟨rfl, rfl⟩
          have hcnt : (((s.L.length + 1 : Nat) : Int) == 0) = false := by simp; omega
          gi_wp2
          go_roundw
          case rel => exact ⟨k + 1, _, _, _, by omega, by go_num, HL5⟩
          case measure => simp [intOf]; omega
      · cases hd : (s.swap (q : Int) x y).2.1.did with
        | false =>
          have HD := Lib.hid hd
          clear hd
          refine ⟨trivial, nodepth, ?_⟩
          refine (callsIn_wide.2 (HX1.out.wk.Swap hB hLb (q : Int) x y hxw hyw _ _ _ _ rfl rfl HD.out rfl)).mono ?_
          rintro e w4 ⟨rfl, hW, hK, hS, hz4⟩
          have HW4 := Lib.hid hW
          have HK4 := Lib.hid hK
          have HS4 := Lib.hid hS
          have b4 := hK _ _ _ HX1.out.ask other_sl
          have x4 := hK _ _ _ HXB.out other_act
          have HB4 := Lib.hid b4
          have HO4 := Lib.hid (own_keep HX1.out.own hS)
          have p0 := b4.cell 0
          have p1 := b4.frozen 0
          have p2 := x4.cell 2
          simp at p0 p2
          have hbl4 := b4.lt
          have hxl4 := x4.lt
          clear hW hK hS b4 x4
          gi_wp2_with (gi_at_builtin; go_must (refine wpListIn_append_lies _ rfl (.tmp 104) (.tmp 107) 38 rfl 39 i0 (.int .u64 0) 1 8 Try.underlying38 hi iz0 iz1 iz2 rfl (by decide) (.slice aa ax.length cp) ax.length (words ax) rfl (HO4.out.alloc _) ⟨w4.heap.size, 0, none⟩ 1 1 [.int .u64 (x : Int)] rfl rfl (one_new _ _ _) (by simp [Value.oneCell']) (by omega) (by simp only [maxLen]; omega) (by omega) ?_); intro gg cap5 w5 hown hgrow hat hlt5; refine Hid.out ?_)
          have b5 := (HB4.out.alloc (.cells #[.int .u64 (x : Int)] 39)).grown hgrow (fun hh => own_ne (HO4.out.alloc (.cells #[.int .u64 (x : Int)] 39)) (HB4.out.alloc _) (by decide) (by simp [sb, ← hh]))
          have q0 := b5.cell 0
          have q1 := b5.frozen 0
          simp at q0
          have HL5 := Lib.hid (HX1.out.app (x := x) hB hbaB (HX1.out.good.step 3 q x hqm (chgSwap x y) (fun _ _ => hyw) HWD.out (by omega) (fun _ => by simp [chgSwap]) (fun h => by omega)) (by rw [doBy_len HQ.out]; have := HX.out.few; omega) hxw HW4.out HK4.out HS4.out hown hgrow hat)
          clear hown hgrow hat b5
          refine Lib.hid ?_
          gi_wp2_with fail
          refine ⟨trivial, ?_⟩
          gi_wp2
          go_roundw
          case rel => exact ⟨k + 1, _, _, _, by omega, by go_num, HL5⟩
          case measure => simp [intOf]; omega
        | true =>
          have HD := Lib.hid hd
          clear hd
          refine ⟨trivial, nodepth, ?_⟩
          refine (callsIn_wide.2 (HX1.out.wk.Swap hB hLb (q : Int) x y hxw hyw _ _ _ _ rfl rfl HD.out rfl)).mono ?_
          rintro e w4 ⟨rfl, hW, hK, hS, hz4⟩
          have HW4 := Lib.hid hW
          have HK4 := Lib.hid hK
          have HS4 := Lib.hid hS
          have b4 := hK _ _ _ HX1.out.ask other_sl
          have x4 := hK _ _ _ HXB.out other_act
          have HB4 := Lib.hid b4
          have HO4 := Lib.hid (own_keep HX1.out.own hS)
          have p0 := b4.cell 0
          have p1 := b4.frozen 0
          have p2 := x4.cell 2
          simp at p0 p2
          have hbl4 := b4.lt
          have hxl4 := x4.lt
          clear hW hK hS b4 x4
          gi_wp2_with (gi_at_builtin; go_must (refine wpListIn_append_lies _ rfl (.tmp 104) (.tmp 107) 38 rfl 39 i0 (.int .u64 0) 1 8 Try.underlying38 hi iz0 iz1 iz2 rfl (by decide) (.slice aa ax.length cp) ax.length (words ax) rfl (HO4.out.alloc _) ⟨w4.heap.size, 0, none⟩ 1 1 [.int .u64 (x : Int)] rfl rfl (one_new _ _ _) (by simp [Value.oneCell']) (by omega) (by simp only [maxLen]; omega) (by omega) ?_); intro gg cap5 w5 hown hgrow hat hlt5; refine Hid.out ?_)
          have b5 := (HB4.out.alloc (.cells #[.int .u64 (x : Int)] 39)).grown hgrow (fun hh => own_ne (HO4.out.alloc (.cells #[.int .u64 (x : Int)] 39)) (HB4.out.alloc _) (by decide) (by simp [sb, ← hh]))
          have q0 := b5.cell 0
          have q1 := b5.frozen 0
          simp at q0
          have HL5 := Lib.hid (HX1.out.app (x := x) hB hbaB (HX1.out.good.step 3 q x hqm (chgSwap x y) (fun _ _ => hyw) HWD.out (by omega) (fun _ => by simp [chgSwap]) (fun h => by omega)) (by rw [doBy_len HQ.out]; have := HX.out.few; omega) hxw HW4.out HK4.out HS4.out hown hgrow hat)
          clear hown hgrow hat b5
          refine Lib.hid ?_
          gi_wp2_with fail
          refine ⟨trivial, nodepth, ?_⟩
          refine (callsIn_wide.2 (HL5.out.wk.Count (s.L.length + 1) (doBy_len HQ.out))).mono ?_
          rintro e w' ⟨rfl, rfl⟩
          have hcnt : (((s.L.length + 1 : Nat) : Int) == 0) = false := by simp; omega
          gi_wp2
          go_roundw
          case rel => exact ⟨k + 1, _, _, _, by omega, by go_num, HL5⟩
          case measure => simp [intOf]; omega
      · refine ⟨trivial, nodepth, ?_⟩
        refine (callsIn_wide.2 (HX1.out.wk.Add hB hLb (q : Int) x hxw _ _ _ rfl rfl rfl)).mono ?_
        rintro e w4 ⟨rfl, hW, hK, hS, hz4⟩
        have HW4 := Lib.hid hW
        have HK4 := Lib.hid hK
        have HS4 := Lib.hid hS
        have b4 := hK _ _ _ HX1.out.ask other_sl
        have x4 := hK _ _ _ HXB.out other_act
        have HB4 := Lib.hid b4
        have HO4 := Lib.hid (own_keep HX1.out.own hS)
        have p0 := b4.cell 0
        have p1 := b4.frozen 0
        have p2 := x4.cell 2
        simp at p0 p2
        have hbl4 := b4.lt
        have hxl4 := x4.lt
        clear hW hK hS b4 x4
        gi_wp2_with (gi_at_builtin; go_must (refine wpListIn_append_lies _ rfl (.tmp 104) (.tmp 107) 38 rfl 39 i0 (.int .u64 0) 1 8 Try.underlying38 hi iz0 iz1 iz2 rfl (by decide) (.slice aa ax.length cp) ax.length (words ax) rfl (HO4.out.alloc _) ⟨w4.heap.size, 0, none⟩ 1 1 [.int .u64 (x : Int)] rfl rfl (one_new _ _ _) (by simp [Value.oneCell']) (by omega) (by simp only [maxLen]; omega) (by omega) ?_); intro gg cap5 w5 hown hgrow hat hlt5; refine Hid.out ?_)
        have b5 := (HB4.out.alloc (.cells #[.int .u64 (x : Int)] 39)).grown hgrow (fun hh => own_ne (HO4.out.alloc (.cells #[.int .u64 (x : Int)] 39)) (HB4.out.alloc _) (by decide) (by simp [sb, ← hh]))
        have q0 := b5.cell 0
        have q1 := b5.frozen 0
        simp at q0
        have HL5 := Lib.hid (HX1.out.app (x := x) hB hbaB (HX1.out.good.step 4 q x hqm (chgAdd x) (fun _ _ => Nat.mod_lt _ (by omega)) HWD.out (by omega) (fun _ => rfl) (fun h => by omega)) (by rw [doBy_len HQ.out]; have := HX.out.few; omega) hxw HW4.out HK4.out HS4.out hown hgrow hat)
        clear hown hgrow hat b5
        refine Lib.hid ?_
        gi_wp2_with fail
        refine ⟨trivial, ?_⟩
        gi_wp2
        go_roundw
        case rel => exact ⟨k + 1, _, _, _, by omega, by go_num, HL5⟩
        case measure => simp [intOf]; omega
      · refine ⟨trivial, ?_⟩
        gi_wp2
        go_roundw
        case rel => exact ⟨k + 1, _, _, _, by omega, by go_num, ⟨HX1.out.good, HX1.out.wk, HX1.out.res, HX1.out.cel, HX1.out.ask, HX1.out.own, by have := HX1.out.few; omega, HX1.out.new, HX1.out.wd⟩⟩
        case measure => simp [intOf]; omega
    · have hlt' : ¬ (k : Int) < (n1 : Int) := by omega
      have cc := HX.out.cel.cell 0
      simp at cc
      have hmk := made_words m hm2
      have hclt := HX.out.cel.lt
      gi_wp2_with fail
      obtain ⟨wH, hwH⟩ : ∃ wH, (wr.alloc (.cells (zerosArr m) 39)).alloc (.cells #[.slice (some ⟨wr.heap.size, 0, none⟩) m m] 38) = wH := ⟨_, rfl⟩
      obtain ⟨gh, hgh⟩ : ∃ gh, wr.heap.size = gh := ⟨_, rfl⟩
      have HTH : Hid (Touch [] wr wH) := hwH ▸ ((Touch.refl [] wr).alloc _).alloc _
      have HXH := Lib.hid (HX.out.touch hB HTH.out)
      have HHH : Hid (Blk wH (gh + 1) 38 #[.slice (some ⟨gh, 0, none⟩) m m]) := by
        rw [← hwH, hgh]
        have := Blk.new (wr.alloc (.cells (zerosArr m) 39)) 38 #[.slice (some ⟨gh, 0, none⟩) m m]
        rw [World.size_alloc, hgh] at this
        exact this
      have HRH : Hid (wH.ownsRow 0 39 1 (.slice (some ⟨gh, 0, none⟩) m m) m (words (List.replicate m 0))) := by
        rw [← hwH, hgh]
        have := (own_zeros m hm2 wr).alloc (.cells #[.slice (some ⟨gh, 0, none⟩) m m] 38)
        rw [hgh] at this
        exact this
      have HWH : Hid (Wk (gh :: sb va) w.heap.size w wH g s) := by
        rw [← hwH]
        have := (HX.out.wk.allocS (HX.out.wk.size hB) (.cells (zerosArr m) 39)).alloc (by have := HX.out.wk.size hB; simp; omega) (.cells #[.slice (some ⟨wr.heap.size, 0, none⟩) m m] 38)
        rw [hgh] at this
        rw [hgh]
        exact this
      have HGN : Hid (gh ∉ sb va) := fun hc => by have := own_lt HX.out.own gh hc; omega
      have hghB : w.heap.size ≤ gh := by have := HX.out.wk.size hB; omega
      rw [hgh] at hwH
      rw [hgh, hwH]
      have HLn := Lib.hid HX.out.good.len
      have hLf : s.L.length ≤ 60 := by have := HX.out.few; omega
      clear hwH hgh cc hmk hclt
      have hnil := log_not_nil
      refine ⟨trivial, nodepth, ?_⟩
      refine (callsIn_wide.2 (Log_wk hB HWH.out (by omega))).mono ?_
      rintro e w5 ⟨bl, bf, gg, rfl, hL5, hW5, ht5, hge5⟩
      have HW5 := Lib.hid hW5
      have HL5 := Lib.hid hL5
      have HX5 := Lib.hid (HXH.out.touch hB ht5)
      have HH5 := Lib.hid (HHH.out.touch ht5 (by simp))
      have HR5 := Lib.hid (own_touch HRH.out ht5 (by simp))
      have HG5 : Hid (∀ b ∈ [bl, bf, gg], gh ≠ b) := fun b hb => by have := hge5 b hb; have := own_lt HRH.out gh (by simp [sb, Value.ownBlock]); omega
      have a5 := HX5.out.ask.cell 0
      simp at a5
      obtain ⟨aa, cp, hva, hcp1, hcp2⟩ := own_val HX5.out.own
      subst hva
      have hcmp : ((s.L.length : Int) != (ax.length : Int)) = false := by rw [HLn.out]; simp
      have hcast : IntKind.u64.wrap (ax.length : Int) = (ax.length : Int) := by rw [IntKind.wrap_u64]; have := HLn.out; omega
      have hax : ax.length ≤ 60 := by have := HLn.out; omega
      clear hL5 hW5 ht5 hge5
      gi_wp2_with fail
      gi_quiet ((first | (refine ⟨nodepth, ?_⟩; gi_at_call 28; exact quietIn_left (num01 _ _)) | (refine ⟨nodepth, ?_⟩; gi_at_call 26; exact quietIn_left ((HX5.out.wk.drewN _).Count _ rfl))))
      have HTq : Hid (Touch [] w5 (w5.drewN nq)) := (Touch.refl [] w5).drewN nq
      obtain ⟨w6, hw6⟩ : ∃ w6, w5.drewN nq = w6 := ⟨_, rfl⟩
      rw [hw6] at HTq
      rw [hw6]
      clear hw6
      gi_wp2_with fail
      obtain ⟨bn, hbn⟩ : ∃ bn, w6.heap.size = bn := ⟨_, rfl⟩
      obtain ⟨wN, hwN⟩ : ∃ wN, w6.alloc (.cells #[.int .i64 0] 3) = wN := ⟨_, rfl⟩
      have HTN : Hid (Touch [] w5 wN) := hwN ▸ HTq.out.alloc _
      have HXN := Lib.hid (HX5.out.touch hB HTN.out)
      have HLN : Hid (Loop2 [] w.heap.size w wN g m w.heap.size (w.heap.size + 1) ba (gh + 1) bn gh bl bf gg 0 s ax (.slice aa ax.length cp)) :=
        ⟨HW5.out.touch hB HTN.out (by simp) (by simp), HL5.out.keep (fun b hb => HTN.out.block b (HL5.out.lt b hb) (by simp)), HXN.out.res, HXN.out.cel, HXN.out.ask, HXN.out.own, HH5.out.touch HTN.out (by simp), own_touch HR5.out HTN.out (by simp), by rw [← hwN, ← hbn]; exact Blk.new w6 _ _⟩
      have HBN : Hid (∀ b ∈ [w.heap.size + 1, w.heap.size, ba, gh + 1, gh, bl, bf, gg] ++ sb (.slice aa ax.length cp), b ≠ bn) := by
        have h6 : w5.heap.size ≤ bn := hbn ▸ HTq.out.size
        intro b hb hc
        simp only [List.mem_append, List.mem_cons, List.not_mem_nil, or_false] at hb
        rcases hb with (rfl | rfl | rfl | rfl | rfl | rfl | rfl | rfl) | hb
        · have := HX5.out.res.lt; omega
        · have := HX5.out.cel.lt; omega
        · have := HX5.out.ask.lt; omega
        · have := HH5.out.lt; omega
        · have := own_lt HR5.out b (by simp [sb, Value.ownBlock]); omega
        · have := HL5.out.lt b (by simp); omega
        · have := HL5.out.lt b (by simp); omega
        · have := HL5.out.lt b (by simp); omega
        · have := own_lt HX5.out.own b hb; omega
      have HGH : Hid (∀ b ∈ [bl, bf, gg] ++ sb (.slice aa ax.length cp), gh ≠ b) := fun b hb => by
        rcases List.mem_append.1 hb with h1 | h1
        · exact HG5.out b h1
        · rintro rfl; exact HGN.out h1
      have hbnB : w.heap.size ≤ bn := by have := HW5.out.size hB; have := HTq.out.size; omega
      have HGD := Lib.hid HX5.out.good
      have HWDx := Lib.hid HX5.out.wd
      rw [hbn, hwN]
      have hF0 : logF s.L = 0 := by unfold logF; omega
      have hLL : logL s.L = s.L := by unfold logL; rw [hF0]; rfl
      have HF0 := Lib.hid hF0
      have HLL := Lib.hid hLL
      clear hwN hbn HTq HTN HXN HX5 HW5 HL5 HH5 HR5 HX HXH HTH HHH HRH HWH hF0 hLL hcmp hcast a5 hnil
      refine range_log (bl := bl) (bf := bf) (gg := gg) (L := s.L) rfl rfl (by omega)
        (fun k W => Loop2 [wN.heap.size, wN.heap.size + 1] w.heap.size w W g m w.heap.size (w.heap.size + 1) ba (gh + 1) bn gh bl bf gg k s ax (.slice aa ax.length cp))
        (fun _ _ => False) (fun k W h => h.log) ?hal ?hput (fun _ _ _ h => h) ?h0 ?hround ?hdone ?hstop
      case hal => exact fun k W o hl h => h.keep (h.wk.alloc (h.wk.size hB) o) (fun b hb => Below.heap_alloc _ _ b (h.lt b hb))
      case hput => exact fun k W o h => h.keep (h.wk.putObj (by simp) (by have := HLN.out.wk.size hB; omega) o) (fun b hb => World.putObj_heap_other (by have := HLN.out.lt b hb; omega))
      case h0 => exact fun o => HLN.out.keep (HLN.out.wk.loop hB _ _) (fun b hb => (((Touch.refl [] wN).alloc _).alloc _).block b (HLN.out.lt b hb) (by simp))
      case hstop => intro c W h; exact h.elim
      case hround =>
        rintro j W hj h hlt
        rw [HF0.out]
        have hj' : j < s.L.length := by rw [← HLL.out]; exact hj
        obtain ⟨x, hx⟩ : ∃ x, (logL s.L)[j]'hj = x := ⟨_, rfl⟩
        have hx' : s.L[j]? = some x := by
          rw [← hx, ← List.getElem?_eq_getElem hj, HLL.out]
        obtain ⟨f1, f2, f3, f4, f5, f6, f7⟩ := HGD.out.acc j hj'
        have hxx : s.L[j] = x := by rw [List.getElem?_eq_getElem hj'] at hx'; exact Option.some.inj hx'
        rw [hxx] at f1 f2 f3 f4 f5 f6 f7
        rw [hx]
        have hjax : j < ax.length := by rw [HGD.out.len]; exact hj'
        obtain ⟨ga, cap, cur, hva, hA, hA1, hA2, hA3, hA4⟩ := own_form h.own (by omega)
        injection hva with hva1 hva2 hva3
        subst hva1 hva3
        obtain ⟨y, hy⟩ : ∃ y, ax[j]'hjax = y := ⟨_, rfl⟩
        have hy' : ax.getD j 0 = y := by simp [List.getD, hjax, hy]
        rw [hy'] at f3
        have HJ := Lib.hid h
        have HX' := Lib.hid hx'
        have HF2 := Lib.hid f2
        have HF3 := Lib.hid f3
        have HF4 := Lib.hid f4
        have HY := Lib.hid hy
        clear h hx' f2 f3 f4 hx hxx hva2 hy hy' hA hA1 hA2 hA3 hA4
        gi_wp2
        refine ⟨⟨Below.heap_alloc _ _ _ (by omega), Below.heap_alloc _ _ _ hlt⟩, fun o => ?_⟩
        obtain ⟨bx, hbx⟩ : ∃ bx, W.heap.size = bx := ⟨_, rfl⟩
        obtain ⟨W2, hW2⟩ : ∃ W2, (W.alloc x.box).putObj (wN.heap.size + 1) o = W2 := ⟨_, rfl⟩
        have K := Lib.hid (show Loop2 [wN.heap.size, wN.heap.size + 1] w.heap.size w W2 g m w.heap.size (w.heap.size + 1) ba (gh + 1) bn gh bl bf gg j s ax (.slice (some ⟨ga, 0, none⟩) ax.length cp) from
          hW2 ▸ HJ.out.keep ((HJ.out.wk.alloc (HJ.out.wk.size hB) _).putObj (l := wN.heap.size + 1) (by simp) (by have := HLN.out.wk.size hB; omega) o) (fun b hb => (World.putObj_heap_other (by have := HLN.out.lt b hb; omega)).trans (Below.heap_alloc _ _ b (HJ.out.lt b hb))))
        have k4 : Blk W2 bx 54 x.cells.toArray := by rw [← hW2, ← hbx]; exact Blk.putObj (Blk.new W _ _) (by omega) o
        have e2 : (W.alloc (.cells #[.int .i64 (x.op : Int), .int .i64 (x.at_ : Int), .int .u64 (x.old : Int), .int .u64 (x.new : Int), .bool x.did] 54)).putObj (wN.heap.size + 1) o = W2 := hW2
        rw [e2, hbx]
        clear hbx e2 hW2 HJ hlt
        have c0 := k4.cell 0
        have c1 := k4.cell 1
        have c2 := k4.cell 2
        have c3 := k4.cell 3
        have c4 := k4.cell 4
        simp [Acc.cells] at c0 c1 c2 c3 c4
        have a0 := K.out.ask.cell 0
        have h0 := K.out.has.cell 0
        have n0 := K.out.num.cell 0
        have m0 := K.out.cel.cell 0
        simp at a0 h0 n0 m0
        have ca : W2.cell? ⟨ga, j, none⟩ = some (.int .u64 (y : Int)) := by
          rw [own_cell K.out.own j (by rw [words_length]; exact hjax)]
          simp [words, HY.out]
        have ch : W2.cell? ⟨gh, x.at_, none⟩ = some (.int .u64 (x.old : Int)) := by
          have hl : x.at_ < (hasOf m (s.L.take j)).length := by rw [hasOf_length]; exact f1
          rw [own_cell K.out.row x.at_ (by rw [words_length]; exact hl)]
          have e := HF2.out
          simp [List.getD, hl] at e
          simp [words, ← e]
        have fh := own_frozen K.out.row x.at_
        have fn := K.out.num.frozen 0
        have hcj : IntKind.u64.wrap (j : Int) = (j : Int) := by rw [IntKind.wrap_u64]; omega
        have hgj : ¬ (ax.length : Int) ≤ (j : Int) := by omega
        have hgj' : ¬ ax.length ≤ j := by omega
        have hg0 : decide ((x.at_ : Int) < 0) = false := decide_eq_false (by omega)
        have hgm : ¬ (m : Int) ≤ (x.at_ : Int) := by omega
        have hgm' : ¬ m ≤ x.at_ := by omega
        have hne1 : ¬ gh = bn := HBN.out gh (by simp)
        have hne2 : ¬ bn = gh := fun h => hne1 h.symm
        clear k4
        by_cases h3 : x.op = 3
        · have ho3 : ((x.op : Int) != 3) = false := by simp; omega
          have ho1 : ((x.op : Int) == 1) = false := by simp; omega
          by_cases hyx : x.old = y
          · have hd : x.did = true := by rw [HF3.out]; simp [hyx]
            rw [hd] at c4
            rw [← hyx] at ca
            clear h3 hd hyx
            gi_wp2_with fail
            refine quiet_round rfl (by kernel_rfl) (by kernel_rfl) (by kernel_rfl) ?_
            repeat (first | gi_big_quiet_skip | (gi_big_quiet_want; gi_big_quiet_op; go_big_quiet_on))
            refine wpQuietIn_nil ?_
            intro _ hw'
            obtain ⟨nq, hw''⟩ := hw'
            subst hw''
            gi_wp2_with fail
            have HST := Lib.hid ((K.out.keep (K.out.wk.drewN nq) (fun _ _ => rfl)).step x HX'.out hghB hbnB HBN.out HGH.out)
            refine ⟨⟨(Below.heap_setCell _ _ _ _ (by have := HLN.out.num.lt; simp; omega)).trans (Below.heap_setCell _ _ _ _ (by have := HLN.out.lt gh (by simp); simp; omega)), (Below.heap_setCell _ _ _ _ (by have := HLN.out.num.lt; simp; omega)).trans (Below.heap_setCell _ _ _ _ (by have := HLN.out.lt gh (by simp); simp; omega))⟩, ?_⟩
            exact HST.out
          · have hd : x.did = false := by rw [HF3.out]; simp [hyx, h3]
            have hn := HF4.out (.inr hd)
            rw [hd] at c4
            rw [hn] at c3
            have hoy : ((x.old : Int) == (y : Int)) = false := by simp; omega
            have HN := Lib.hid hn
            clear h3 hd hn
            gi_wp2_with fail
            refine quiet_round rfl (by kernel_rfl) (by kernel_rfl) (by kernel_rfl) ?_
            repeat (first | gi_big_quiet_skip | (gi_big_quiet_want; gi_big_quiet_op; go_big_quiet_on))
            refine wpQuietIn_nil ?_
            intro _ hw'
            obtain ⟨nq, hw''⟩ := hw'
            subst hw''
            gi_wp2_with fail
            have HST := Lib.hid ((K.out.keep (K.out.wk.drewN nq) (fun _ _ => rfl)).step x HX'.out hghB hbnB HBN.out HGH.out)
            refine ⟨⟨(Below.heap_setCell _ _ _ _ (by have := HLN.out.num.lt; simp; omega)).trans (Below.heap_setCell _ _ _ _ (by have := HLN.out.lt gh (by simp); simp; omega)), (Below.heap_setCell _ _ _ _ (by have := HLN.out.num.lt; simp; omega)).trans (Below.heap_setCell _ _ _ _ (by have := HLN.out.lt gh (by simp); simp; omega))⟩, ?_⟩
            exact HN.out ▸ HST.out
        · have hd : x.did = true := by rw [HF3.out]; simp [h3]
          rw [hd] at c4
          have ho3 : ((x.op : Int) != 3) = true := by simp; omega
          by_cases h1 : x.op = 1
          · have hn := HF4.out (.inl h1)
            rw [hn] at c3
            have ho1 : ((x.op : Int) == 1) = true := by simp; omega
            have HN := Lib.hid hn
            clear h3 h1 hd hn
            gi_wp2_with fail
            refine quiet_round rfl (by kernel_rfl) (by kernel_rfl) (by kernel_rfl) ?_
            repeat (first | gi_big_quiet_skip | (gi_big_quiet_want; gi_big_quiet_op; go_big_quiet_on))
            refine wpQuietIn_nil ?_
            intro _ hw'
            obtain ⟨nq, hw''⟩ := hw'
            subst hw''
            gi_wp2_with fail
            have HST := Lib.hid ((K.out.keep (K.out.wk.drewN nq) (fun _ _ => rfl)).step x HX'.out hghB hbnB HBN.out HGH.out)
            refine ⟨⟨(Below.heap_setCell _ _ _ _ (by have := HLN.out.num.lt; simp; omega)).trans (Below.heap_setCell _ _ _ _ (by have := HLN.out.lt gh (by simp); simp; omega)), (Below.heap_setCell _ _ _ _ (by have := HLN.out.num.lt; simp; omega)).trans (Below.heap_setCell _ _ _ _ (by have := HLN.out.lt gh (by simp); simp; omega))⟩, ?_⟩
            exact HN.out ▸ HST.out
          · have ho1 : ((x.op : Int) == 1) = false := by simp; omega
            clear h3 h1 hd
            gi_wp2_with fail
            refine quiet_round rfl (by kernel_rfl) (by kernel_rfl) (by kernel_rfl) ?_
            repeat (first | gi_big_quiet_skip | (gi_big_quiet_want; gi_big_quiet_op; go_big_quiet_on))
            refine wpQuietIn_nil ?_
            intro _ hw'
            obtain ⟨nq, hw''⟩ := hw'
            subst hw''
            gi_wp2_with fail
            have HST := Lib.hid ((K.out.keep (K.out.wk.drewN nq) (fun _ _ => rfl)).step x HX'.out hghB hbnB HBN.out HGH.out)
            refine ⟨⟨(Below.heap_setCell _ _ _ _ (by have := HLN.out.num.lt; simp; omega)).trans (Below.heap_setCell _ _ _ _ (by have := HLN.out.lt gh (by simp); simp; omega)), (Below.heap_setCell _ _ _ _ (by have := HLN.out.num.lt; simp; omega)).trans (Below.heap_setCell _ _ _ _ (by have := HLN.out.lt gh (by simp); simp; omega))⟩, ?_⟩
            exact HST.out
      case hdone =>
        rintro W h hK hlt
        obtain ⟨D, hD⟩ : ∃ D, wN.heap.size = D := ⟨_, rfl⟩
        have hDB : w.heap.size ≤ D := by have := HLN.out.wk.size hB; omega
        have hclen := HGD.out.clen
        have HL3 : Hid (Loop3 w.heap.size w W g m w.heap.size (w.heap.size + 1) ba (gh + 1) bn gh D 0 ax.length s.C s (.slice aa ax.length cp)) := by
          rw [HLL.out, ← HGD.out.len] at h
          have hr := h.row
          rw [List.take_of_length_le (by rw [HGD.out.len]; exact Nat.le_refl _), ← HGD.out.C] at hr
          exact ⟨h.wk.sub (by rw [← hD]; simp), rfl, by omega, h.res, h.cel, h.ask, h.has, hr, h.num, hD ▸ hK⟩
        rw [hD]
        clear h hK hlt hD
        gi_wp2
        gi_loopw [19] (fun i wx => ∃ (k : Nat) (s' : Ar), k ≤ m ∧ i = .int .i64 (k : Int) ∧ Hid (Loop3 w.heap.size w wx g m w.heap.size (w.heap.size + 1) ba (gh + 1) bn gh D k ax.length s.C s' (.slice aa ax.length cp))) (fun i _ => m - (intOf i).toNat)
        case atStart => exact ⟨0, _, Nat.zero_le _, rfl, HL3⟩
        case round =>
          obtain ⟨k, s', hk, rfl, HX⟩ := hrel
          have cc := HX.out.cel.cell 0
          simp at cc
          by_cases hlt : k < m
          · have hlt' : (k : Int) < (m : Int) := by omega
            have HQ : Hid (k < s'.C.length) := by rw [HX.out.C]; unfold Hid; omega
            gi_wp2_with fail
            refine ⟨trivial, nodepth, ?_⟩
            refine (callsIn_wide.2 (HX.out.wk.Load hB (by have := HX.out.few; omega) (k : Int) _ _ _ rfl (load_old HQ.out) (doBy_err0 HQ.out))).mono ?_
            rintro e w7 ⟨rfl, hW7, hK7, hS7, hz7⟩
            have HX7 := Lib.hid (HX.out.load hW7 hK7 hS7 (load_C HQ.out) (doBy_len HQ.out))
            have h0 := HX7.out.has.cell 0
            simp at h0
            have ch : w7.cell? ⟨gh, k, none⟩ = some (.int .u64 (s'.C[k]'HQ.out : Int)) := by
              have hl : k < s.C.length := by omega
              rw [own_cell HX7.out.row k (by rw [words_length]; exact hl)]
              simp [words, HX.out.C]
            generalize s'.C[k]'HQ.out = v at *
            clear hW7 hK7 hS7 hz7
            gi_wp2_with fail
            refine ⟨trivial, nodepth, ?_⟩
            refine (callsIn_wide.2 (num01 _ _)).mono ?_
            rintro e w8 ⟨rfl, rfl⟩
            gi_wp2
            go_roundw
            case rel => exact ⟨k + 1, _, by omega, by go_num, HX7⟩
            case measure => simp [intOf]; omega
          · have hlt' : ¬ (k : Int) < (m : Int) := by omega
            have a0 := HX.out.ask.cell 0
            have n0 := HX.out.num.cell 0
            simp at a0 n0
            gi_wp2_with fail
            refine ⟨trivial, nodepth, ?_⟩
            refine (callsIn_wide.2 (works01 _)).mono ?_
            rintro e w8 ⟨rfl, hb8⟩
            have HR8 : Hid (Blk w8 (w.heap.size + 1) 4 #[.bool false]) := HX.out.res.keep (hb8.block _ HX.out.res.lt)
            have HM8 : Hid (w8.heap[D]? = some (.deferred (some []))) := (hb8.block D (HX.out.wk.lt D (by simp))).trans HX.out.mark
            have HB8 : Hid (Below w.heap.size w w8) := HX.out.wk.below.trans (hb8.mono (HX.out.wk.size hB))
            have r0 := HR8.out.cell 0
            have r1 := HR8.out.frozen 0
            simp at r0
            clear hb8
            gi_wp2
            have hb2 := HR8.out.set 0 (.bool true)
            simp only [List.setIfInBounds_toArray, List.set_cons_zero] at hb2
            have hms : ∀ k ∈ [D], (w8.setCell ⟨w.heap.size + 1, 0, none⟩ (.bool true)).heap[k]? = some (.deferred (some [])) := by
              intro k hk
              simp only [List.mem_singleton] at hk
              subst hk
              exact (Below.heap_setCell _ _ _ _ (HR8.out.ne_deferred HM8.out).symm).trans HM8.out
            have hc := (hb2.shut _ hms).cell 0
            simp only [List.getElem?_toArray, List.getElem?_cons_zero] at hc
            refine leave_marks (v := .bool true) [D] _ hms (by simp) (by simp [results, Try.results4, go_sem, hc]) ⟨rfl, ?_⟩
            exact shutAll_below _ _ _ _ (by simp; omega) (HB8.out.setCell (p := ⟨w.heap.size + 1, 0, none⟩) (by simp) _)
end Go.Proofs.Ytegebecogbebaaa
