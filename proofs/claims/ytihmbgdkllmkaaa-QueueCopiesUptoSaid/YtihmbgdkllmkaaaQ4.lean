/-
  Layer 13: index, Find, Next (queue.go).
-/
import Derived.Test.YtihmbgdkllmkaaaQ3
namespace Go.Proofs.Ytihmbgdkllmkaaa
open Go.RowKit Go.Shelf
set_option maxRecDepth 100000
set_option linter.unusedVariables false
set_option linter.unusedSimpArgs false

/-- The index of the first entry, from an index on, for which P holds, or -1. -/
def IdxR (P : PE → Prop) (es : List PE) (fr r : Int) : Prop :=
  (r = -1 ∧ ∀ j (h : j < es.length), fr ≤ (j : Int) → ¬ P es[j]) ∨ ∃ j, ∃ h : j < es.length, r = (j : Int) ∧ fr ≤ (j : Int) ∧ P es[j] ∧ ∀ i (h' : i < es.length), fr ≤ (i : Int) → i < j → ¬ P es[i]
theorem IdxR.unique {P : PE → Prop} {es : List PE} {fr r r' : Int} (h : IdxR P es fr r) (h' : IdxR P es fr r') : r = r' := by
  rcases h with ⟨h1, h2⟩ | ⟨j, hj, h1, h2, h3, h4⟩
  · rcases h' with ⟨h1', _⟩ | ⟨j', hj', h1', h2', h3', _⟩
    · omega
    · exact absurd h3' (h2 j' hj' h2')
  · rcases h' with ⟨h1', h2'⟩ | ⟨j', hj', h1', h2', h3', h4'⟩
    · exact absurd h3 (h2' j hj h2)
    · by_cases hlt : j < j'
      · exact absurd h3 (h4' j hj h2 hlt)
      · by_cases hlt2 : j' < j
        · exact absurd h3' (h4 j' hj' h2' hlt2)
        · omega
def IdxTold (P : PE → Prop) (es : List PE) (fr : Int) (w : World) (e : Ending) (w' : World) : Prop := ∃ r, e = .returned (.int .i64 r) ∧ IdxR P es fr r ∧ Touch [] w w'

set_option maxHeartbeats 2000000 in
theorem index_q (w : World) (a : Option Addr) (cap : Nat) (es : List ME) (fr : Int) (fc : Nat) (caps : Array Value) (P : PE → Prop) (hents : EntsAt w a es) (hlen : es.length ≤ 9223372036854775807)
    (eg : ∀ args w, (callFunc fc args).run Try.prog w = .ok (.enter fc args) w) (hch : ∀ e ∈ es, ∀ W, Touch [] w W → Calls Try.prog fc (#[e.val] ++ caps) W (Tells (P e.plain) W)) :
    Calls Try.prog 61 #[.slice a es.length cap, .int .i64 fr, .func (.func fc) #[] caps] w (IdxTold P (es.map ME.plain) fr w) := by
  have HE := Lib.hid hents
  have HCH := Lib.hid hch
  clear hents hch
  simp only [ent_eq] at HCH
  have hmx : ∃ f0 : Nat, max fr 0 = (f0 : Int) ∧ (∀ j : Nat, fr ≤ (j : Int) ↔ f0 ≤ j) := ⟨(max fr 0).toNat, by omega, fun j => by omega⟩
  obtain ⟨f0, hf0, hf1⟩ := hmx
  have HF := Lib.hid hf1
  clear hf1
  by_cases hfr : 0 ≤ fr
  all_goals
    go_enter Try.func61, Try.ntmps61
    go_wp2_with fail
    go_loopw [7] (fun i wr => ∃ j : Nat, i = .int .i64 (j : Int) ∧ f0 ≤ j ∧ Hid (∀ i (h : i < (es.map ME.plain).length), f0 ≤ i → i < j → ¬ P (es.map ME.plain)[i]) ∧ Hid (Touch [] w wr)) (fun i _ => es.length - (intOf i).toNat)
    case atStart => exact ⟨f0, by congr 1; omega, Nat.le_refl _, by unfold Hid; intro i _ h1 h2; omega, Touch.refl [] w⟩
    case round =>
      obtain ⟨j, rfl, hjf, HD, HT⟩ := hrel
      have hj0 : (0 : Int) ≤ (j : Int) := by omega
      by_cases hjl : j < es.length
      · have hjl' : (j : Int) < (es.length : Int) := by omega
        obtain ⟨b, o, rfl, hb, p0, p1, p2, p3, p4, p5, p6⟩ := (HE.out.touch HT.out) j hjl
        have HC := Lib.hid (HCH.out _ (List.getElem_mem hjl) wr HT.out)
        have HXJ : Hid ((es.map ME.plain)[j]'(by simpa using hjl) = es[j].plain) := by unfold Hid; simp
        generalize es[j] = x at p0 p1 p2 p3 p4 p5 p6 HC HXJ
        go_wp2_with fail
        refine HC.out.mono ?_
        rintro e w2 ⟨cc, rfl, hcc, ht⟩
        have HT2 := Lib.hid (HT.out.trans' ht)
        have HCC := Lib.hid hcc
        clear hcc ht p0 p1 p2 p3 p4 p5 p6 HC
        cases cc with
        | false =>
          go_wp2
          go_roundw
          case rel =>
            refine ⟨j + 1, by go_num, by omega, ?_, HT2⟩
            unfold Hid
            intro i h h1 h2
            by_cases hij : i = j
            · subst hij
              rw [HXJ.out]
              intro hp
              have := HCC.out.2 hp
              cases this
            · exact HD.out i h h1 (by omega)
          case measure => simp [intOf]; omega
        | true =>
          go_wp2
          go_ret
          refine ⟨(j : Int), rfl, .inr ⟨j, by simpa using hjl, rfl, (HF.out j).2 hjf, ?_, fun i h h1 h2 => HD.out i h ((HF.out i).1 h1) h2⟩, HT2.out⟩
          rw [HXJ.out]
          exact HCC.out.1 (by simp)
      · have hjl' : ¬ (j : Int) < (es.length : Int) := by omega
        go_wp2
        go_ret
        exact ⟨-1, rfl, .inl ⟨rfl, fun i h h1 => HD.out i h ((HF.out i).1 h1) (by simp at h; omega)⟩, HT.out⟩

theorem Find1_q (e : ME) (b : Nat) (z : Int) (w : World) (hb : w.cell? ⟨b, 0, none⟩ = some (.int .i64 z)) : Calls Try.prog 62 (#[e.val] ++ #[.pointer (some ⟨b, 0, none⟩)]) w (Tells (e.plain.sync = z) w) := by
  have hlt := World.block_lt_of_cell? _ _ hb
  simp only [ent_eq, List.append_toArray, List.cons_append, List.nil_append]
  go_enter Try.func62, Try.ntmps62
  go_wp2
  go_ret
  exact ⟨_, rfl, by simp [ME.plain], (Touch.refl [] w).alloc _⟩
theorem Next1_q (e : ME) (b : Nat) (z : Int) (w : World) (hb : w.cell? ⟨b, 0, none⟩ = some (.int .i64 z)) : Calls Try.prog 76 (#[e.val] ++ #[.pointer (some ⟨b, 0, none⟩)]) w (Tells (e.plain.thread ≠ z) w) := by
  have hlt := World.block_lt_of_cell? _ _ hb
  simp only [ent_eq, List.append_toArray, List.cons_append, List.nil_append]
  go_enter Try.func76, Try.ntmps76
  go_wp2
  go_ret
  exact ⟨_, rfl, by simp [ME.plain], (Touch.refl [] w).alloc _⟩
set_option maxHeartbeats 1000000 in
theorem Find_q (w : World) (g : Nat) (es : List ME) (z : Int) (h : QAt w g es) : Calls Try.prog 20 #[.pointer (some ⟨g, 0, none⟩), .int .i64 z] w (IdxTold (fun e => e.sync = z) (es.map ME.plain) 0 w) := by
  have HQA := Lib.hid h
  clear h
  go_enter Try.func20, Try.ntmps20
  go_wp2_with fail
  refine wp_calls_name ?_
  intro w1 hw1
  have HL1 := Lib.hid ((Led.nil' w).al1 hw1)
  simp only [List.nil_append, List.cons_append] at HL1
  obtain ⟨b3, hb3⟩ : ∃ b, w.heap.size = b := ⟨_, rfl⟩
  rw [hb3] at HL1 ⊢
  clear hb3 hw1
  obtain ⟨a, cap, hb, hc1, hc2, hr⟩ := HQA.out.touch HL1.out.tch
  have HE := Lib.hid (ents_of_rowS hr)
  have q0 := hb.cell 0
  have q1 := hb.cell 1
  have hlen : es.length ≤ 9223372036854775807 := by unfold maxLen at hc2; omega
  simp at q0 q1
  clear hb hr hc2
  refine (none_no g w1 q0).mono ?_
  rintro e w' ⟨rfl, rfl⟩
  have HB := Lib.hid (HL1.out.c1 0 rfl).1
  go_wp2_with fail
  refine (index_q w1 a cap es 0 62 #[.pointer (some ⟨b3, 0, none⟩)] (fun e => e.sync = z) HE.out hlen (enters_of Try.func62 (by kernel_rfl) rfl) (fun e he W hW => Find1_q e b3 z W (hW.cellOf HB.out))).mono ?_
  rintro e w2 ⟨r, rfl, hr, ht⟩
  have HR := Lib.hid hr
  have HT := Lib.hid (HL1.out.tch.trans' ht)
  clear hr ht
  go_wp2
  go_ret
  exact ⟨r, rfl, HR.out, HT.out⟩
/-- Next: an index, whether there is one. -/
def NextR (P : PE → Prop) (es : List PE) (fr k : Int) (c : Bool) : Prop := ∃ r, IdxR P es fr r ∧ k = max r 0 ∧ (c = true ↔ 0 ≤ r)
theorem NextR.unique {P : PE → Prop} {es : List PE} {fr k k' : Int} {c c' : Bool} (h : NextR P es fr k c) (h' : NextR P es fr k' c') : k = k' ∧ c = c' := by
  obtain ⟨r, h1, h2, h3⟩ := h
  obtain ⟨r', h1', h2', h3'⟩ := h'
  obtain rfl := h1.unique h1'
  refine ⟨by omega, ?_⟩
  cases c <;> cases c' <;> simp_all <;> omega
def NextTold (P : PE → Prop) (es : List PE) (fr : Int) (w : World) (e : Ending) (w' : World) : Prop := ∃ k c, e = .returned (.tuple #[.int .i64 k, .bool c]) ∧ NextR P es fr k c ∧ Touch [] w w'
set_option maxHeartbeats 1000000 in
theorem Next_q (w : World) (g : Nat) (es : List ME) (fr z : Int) (h : QAt w g es) : Calls Try.prog 32 #[.pointer (some ⟨g, 0, none⟩), .int .i64 fr, .int .i64 z] w (NextTold (fun e => e.thread ≠ z) (es.map ME.plain) fr w) := by
  have HQA := Lib.hid h
  clear h
  go_enter Try.func32, Try.ntmps32
  go_wp2_with fail
  refine wp_calls_name ?_
  intro w1 hw1
  have HL1 := Lib.hid ((Led.nil' w).al1 hw1)
  simp only [List.nil_append, List.cons_append] at HL1
  obtain ⟨b3, hb3⟩ : ∃ b, w.heap.size = b := ⟨_, rfl⟩
  rw [hb3] at HL1 ⊢
  clear hb3 hw1
  obtain ⟨a, cap, hb, hc1, hc2, hr⟩ := HQA.out.touch HL1.out.tch
  have HE := Lib.hid (ents_of_rowS hr)
  have q0 := hb.cell 0
  have q1 := hb.cell 1
  have hlen : es.length ≤ 9223372036854775807 := by unfold maxLen at hc2; omega
  simp at q0 q1
  clear hb hr hc2
  refine (none_no g w1 q0).mono ?_
  rintro e w' ⟨rfl, rfl⟩
  have HB := Lib.hid (HL1.out.c1 0 rfl).1
  go_wp2_with fail
  refine (index_q w1 a cap es fr 76 #[.pointer (some ⟨b3, 0, none⟩)] (fun e => e.thread ≠ z) HE.out hlen (enters_of Try.func76 (by kernel_rfl) rfl) (fun e he W hW => Next1_q e b3 z W (hW.cellOf HB.out))).mono ?_
  rintro e w2 ⟨r, rfl, hr, ht⟩
  have HR := Lib.hid hr
  have HT := Lib.hid (HL1.out.tch.trans' ht)
  clear hr ht
  go_wp2
  all_goals go_ret2
  all_goals exact ⟨_, _, rfl, ⟨r, HR.out, by omega, by first | (simp; done) | (simp; omega)⟩, HT.out⟩
end Go.Proofs.Ytihmbgdkllmkaaa
