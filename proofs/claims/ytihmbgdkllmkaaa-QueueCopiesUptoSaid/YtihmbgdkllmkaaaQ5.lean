/-
  Layer 13: copies, Copy, All (queue.go).
-/
import Derived.Test.YtihmbgdkllmkaaaQ4
import Derived.Test.YtihmbgdkllmkaaaLedJ
namespace Go.Proofs.Ytihmbgdkllmkaaa
open Go.RowKit Go.Shelf
set_option maxRecDepth 100000
set_option linter.unusedVariables false
set_option linter.unusedSimpArgs false

def entZ (m : Nat) : Array Value := madeCells #[.int .i64 0, .int .i64 0, .int .i64 0, .int .i64 0, .int .i64 0, .int .i64 0, .slice none 0 0] (m * 7)
theorem entZ_size (m : Nat) : (entZ m).size = m * 7 := by simp [entZ, madeCells]
theorem made_ents (m : Nat) (hm : m ≤ 1048576) (W : World) : (Instr.makeSlice 32 (.int .i64 0) (.int .i64 (m : Int))).run Try.prog W =
    .ok (.slice (some ⟨W.heap.size, 0, none⟩) 0 m) (W.alloc (.cells (entZ m) 27)) := by
  obtain ⟨i0, hi, iz0, iz1, iz2⟩ := info_parts info_ent
  have hr := run_make (P := Try.prog) W 32 27 i0 _ Try.underlying32 hi iz0 .i64 .i64 0 m (by omega) (by omega) (by rw [iz2]; omega) (by omega)
  rw [iz1] at hr
  simpa [Value.cells, entZ] using hr
theorem Led.makeEnts {T : List Nat} {w0 w : World} {l : List Thing} (h : Led T w0 w l) (m : Nat) (hm : m ≤ 1048576) {w' : World} (e : w.alloc (.cells (entZ m) 27) = w') : Led T w0 w' (l ++ [rowT 27 7 (.slice (some ⟨w.heap.size, 0, none⟩) 0 m) 0 []]) :=
  e ▸ h.new (t' := rowT 27 7 (.slice (some ⟨w.heap.size, 0, none⟩) 0 m) 0 []) ⟨rfl, by simp, .inr ⟨w.heap.size, m, entZ m, rfl, heap_alloc_new w _, Nat.zero_le _, by simp only [maxLen]; omega, by rw [entZ_size]; exact Nat.le_refl _, by simp⟩⟩ ⟨(Touch.refl [] w).alloc _, fun k hk => .inr (by simp [sb, Value.ownBlock] at hk; omega)⟩

/-- Copies of entries. -/
def Copied (es : List ME) (w : World) (e : Ending) (w' : World) : Prop := ∃ a cap ys, e = .returned (.slice a es.length cap) ∧ ys.map ME.plain = es.map ME.plain ∧ Led [] w w' [rowT 27 7 (.slice a es.length cap) es.length (entCells ys), valsT (ys.map ME.v)]
set_option maxHeartbeats 4000000 in
theorem copies_q (w : World) (a : Option Addr) (cap : Nat) (es : List ME) (he : EntsAt w a es) (hin : ∀ e ∈ es, e.v.In w ∧ e.v.nodes ≤ 256) (hlen : es.length ≤ 1048576) : Calls Try.prog 68 #[.slice a es.length cap] w (Copied es w) := by
  have HE := Lib.hid he
  have HIN := Lib.hid hin
  clear he hin
  have hmk := made_ents es.length hlen
  obtain ⟨i0, hi0, iz0, iz1, iz2⟩ := info_parts info_ent
  go_enter Try.func68, Try.ntmps68
  go_wp2_with fail
  refine wp_name ?_
  intro w1 hw1
  have HL1 := Lib.hid ((Led.nil' w).makeEnts es.length hlen hw1).vals0
  simp only [List.nil_append, List.cons_append] at HL1
  clear hw1
  go_loopw [3, 11] (fun x i wr => ∃ (j : Nat) (ys : List ME) (ra : Option Addr) (rc : Nat), j ≤ es.length ∧ i = .int .i64 (j : Int) ∧ x = .slice ra j rc ∧ ys.length = j ∧ Hid (ys.map ME.plain = (es.take j).map ME.plain) ∧
    Hid (Led [] w wr [rowT 27 7 (.slice ra j rc) j (entCells ys), valsT (ys.map ME.v)])) (fun _ i _ => es.length - (intOf i).toNat)
  case atStart => exact ⟨0, [], _, _, Nat.zero_le _, rfl, rfl, rfl, by unfold Hid; simp, HL1⟩
  case round =>
    obtain ⟨j, ys, ra, rc, hj, rfl, rfl, hyl, HY, HK⟩ := hrel
    clear HL1
    have hj0 : (0 : Int) ≤ (j : Int) := by omega
    by_cases hjl : j < es.length
    · have hjl' : (j : Int) < (es.length : Int) := by omega
      obtain ⟨b, o, rfl, hb, p0, p1, p2, p3, p4, p5, p6⟩ := (HE.out.touch HK.out.tch) j hjl
      have HI := Lib.hid (HIN.out _ (List.getElem_mem hjl))
      have HTS : Hid ((es.take (j + 1)).map ME.plain = (es.take j).map ME.plain ++ [es[j].plain]) := by
        unfold Hid
        rw [List.take_add_one, List.getElem?_eq_getElem hjl, Option.toList_some, List.map_append]
        rfl
      generalize es[j] = x at p0 p1 p2 p3 p4 p5 p6 HI HTS
      go_wp2_with fail
      refine wp_calls_name ?_
      intro w2 hw2
      have HT2 : Hid (Touch [] wr w2) := hw2 ▸ (Touch.refl [] wr).alloc _
      have HL2 := Lib.hid (HK.out.touch HT2.out)
      clear hw2 p0 p1 p2 p3 p4 p5 p6 hb
      refine (copyEntry_q x w2 (HI.out.1.touch0 (HK.out.tch.trans' HT2.out)) HI.out.2).mono ?_
      rintro e w4 ⟨x', rfl, hpl, hxin, hnew, ht⟩
      have HL4 := Lib.hid (HL2.out.valsNew (vs := [x'.v]) ht (by simpa using hxin) (by simpa using hnew))
      simp only [List.nil_append, List.cons_append] at HL4
      have HPL := Lib.hid hpl
      clear hpl hxin hnew ht HL2
      simp only [ent_eq]
      go_wp2_with (at_builtin; go_must (refine wpList_append_S _ rfl (.tmp 15) (.tmp 18) 32 rfl 27 i0 _ 7 72 Try.underlying32 hi0 iz0 iz1 iz2 rfl (by decide) (.slice ra j rc) j (entCells ys) rfl ((HL4.out.alloc_ _).rowSAt 0 rfl) (some ⟨w4.heap.size, 0, none⟩) 1 1 x'.cells rfl rfl (.inr ⟨_, rfl, World.news_of_block (heap_alloc_new w4 _)⟩) (by have := ents_one [x']; simpa [entCells] using this) (by simp only [maxLen]; omega) (by omega) ?_); intro a5 c5 w5 hown hgrow hat; refine Hid.out ?_)
      have HL5 : Hid (Led [] w w5 [rowT 27 7 (.slice a5 (j + 1) c5) (j + 1) (entCells (ys ++ [x'])), valsT ((ys ++ [x']).map ME.v)]) := by
        have h := (HL4.out.alloc_ _).grownS 0 rfl hgrow hown hat
        simp only [List.set_cons_succ, List.set_cons_zero] at h
        rw [entCells_append, List.map_append]
        exact Led.valsJoin (l := [_]) h
      clear hown hgrow hat HL4
      refine Lib.hid ?_
      go_wp2
      go_roundw
      case rel => exact ⟨j + 1, ys ++ [x'], a5, c5, by omega, by go_num, rfl, by simp [hyl], by unfold Hid; rw [List.map_append, HY.out, HTS.out, ← HPL.out]; rfl, HL5⟩
      case measure => simp [intOf]; omega
    · have hjl' : ¬ (j : Int) < (es.length : Int) := by omega
      obtain rfl : j = es.length := by omega
      go_wp2
      go_ret
      exact ⟨ra, rc, ys, rfl, by have := HY.out; rwa [List.take_length] at this, HK.out⟩

theorem build_list2 (v : Option Addr) (n c : Nat) (w : World) (h : Try.prog.built 65 [(0, .bool true), (1, .slice v n c)] = some #[.bool true, .slice v n c]) : (Instr.build 65 #[(0, .bool true), (1, .slice v n c)]).run Try.prog w = .ok (.agg #[.bool true, .slice v n c]) w := run_build w 65 _ _ h
/-- Copy: another queue. -/
def CopiedQ (es : List ME) (w : World) (e : Ending) (w' : World) : Prop := ∃ g ys, e = .returned (.pointer (some ⟨g, 0, none⟩)) ∧ ys.map ME.plain = es.map ME.plain ∧ Led [] w w' [queueT g ys, valsT (ys.map ME.v)]
set_option maxHeartbeats 1000000 in
theorem Copy_q (w : World) (g : Nat) (es : List ME) (h : QAt w g es) (hin : ∀ e ∈ es, e.v.In w ∧ e.v.nodes ≤ 256) (hlen : es.length ≤ 1048576) : Calls Try.prog 28 #[.pointer (some ⟨g, 0, none⟩)] w (CopiedQ es w) := by
  obtain ⟨a, cap, hb, hc1, hc2, hr⟩ := h
  have HC := Lib.hid (copies_q w a cap es (ents_of_rowS hr) hin hlen)
  have q0 := hb.cell 0
  have q1 := hb.cell 1
  simp at q0 q1
  clear hb hr hin
  go_enter Try.func28, Try.ntmps28
  go_wp2_with fail
  refine (none_no g w q0).mono ?_
  rintro e w' ⟨rfl, rfl⟩
  go_wp2_with fail
  refine HC.out.mono ?_
  rintro e w2 ⟨a2, c2, ys, rfl, hpl, hL⟩
  have HL := Lib.hid hL
  have HPL := Lib.hid hpl
  clear hL hpl
  have hb1 : ∀ W, (Instr.build 65 #[(0, .bool true), (1, .slice a2 es.length c2)]).run Try.prog W = .ok (.agg #[.bool true, .slice a2 es.length c2]) W := fun W => build_list2 _ _ _ W (by kernel_rfl)
  have hb2 : ∀ W, (Instr.build 67 #[(0, .agg #[.bool true, .slice a2 es.length c2])]).run Try.prog W = .ok (.agg #[.bool true, .slice a2 es.length c2]) W := fun W => build_queue _ _ W (by kernel_rfl)
  go_wp2
  go_ret
  refine ⟨w2.heap.size, ys, rfl, HPL.out, ?_⟩
  have hyl : ys.length = es.length := by have := congrArg List.length HPL.out; simpa using this
  have h := HL.out.alloc 67 #[.bool true, .slice a2 es.length c2]
  have h2 := h.sel [2, 0, 1] (l' := [_, _, _]) rfl (by decide)
  exact h2.shutP hyl

/-- What All makes: a box with a slice of copies. -/
def allT (bx : Nat) (v : Value) (ys : List ME) : Thing where
  holds w fp := fp = bx :: (sb v ++ MT.blocksAll (ys.map ME.v)) ∧ Blk w bx 32 #[v] ∧ rowS w 27 7 v ys.length (entCells ys) ∧ ∀ y ∈ ys, y.v.In w
  keep := fun ⟨h1, h2, h3, h4⟩ he => ⟨h1, h2.keep (he bx (by simp [h1])), rowS_keep h3 (fun k hk => he k (by simp [h1, hk])), fun y hy => (h4 y hy).keep (fun k hk => he k (by
    rw [h1]
    refine List.mem_cons_of_mem _ (List.mem_append_right _ (MT.blocksAll_mem.2 ⟨y.v, List.mem_map.2 ⟨y, hy, rfl⟩, hk⟩))))⟩
  lt := fun ⟨h1, h2, h3, h4⟩ k hk => by
    subst h1
    rcases List.mem_cons.1 hk with rfl | hk
    · exact h2.lt
    · rcases List.mem_append.1 hk with hk | hk
      · exact rowS_lt h3 k hk
      · obtain ⟨t, ht, hk⟩ := MT.blocksAll_mem.1 hk
        obtain ⟨y, hy, rfl⟩ := List.mem_map.1 ht
        exact (h4 y hy).lt k hk
def copiesT (v : Value) (ys : List ME) : Thing where
  holds w fp := fp = sb v ++ MT.blocksAll (ys.map ME.v) ∧ rowS w 27 7 v ys.length (entCells ys) ∧ ∀ t ∈ ys.map ME.v, t.In w
  keep := fun ⟨a, b, c⟩ he => ⟨a, rowS_keep b (fun k hk => he k (by simp [a, hk])), fun t ht => (c t ht).keep (fun k hk => he k (by rw [a]; exact List.mem_append_right _ (MT.blocksAll_mem.2 ⟨t, ht, hk⟩)))⟩
  lt := fun ⟨a, b, c⟩ k hk => by
    subst a
    rcases List.mem_append.1 hk with hk | hk
    · exact rowS_lt b k hk
    · obtain ⟨t, ht, hk⟩ := MT.blocksAll_mem.1 hk
      exact (c t ht).lt k hk
theorem Led.shutAll {T : List Nat} {w0 w : World} {l : List Thing} {bx n : Nat} {v : Value} {ys : List ME} (hn : ys.length = n) (h : Led T w0 w (l ++ [Proofs.Ytihmbgdkllmkaaa.box bx 32 #[v], rowT 27 7 v n (entCells ys), valsT (ys.map ME.v)])) : Led T w0 w (l ++ [allT bx v ys]) := by
  subst hn
  have h1 : Led T w0 w ((l ++ [Proofs.Ytihmbgdkllmkaaa.box bx 32 #[v]]) ++ [rowT 27 7 v ys.length (entCells ys), valsT (ys.map ME.v)]) := by simpa using h
  have h2 := h1.merge (t12 := copiesT v ys) (fun f1 f2 ⟨a1, a2⟩ ⟨b1, b2⟩ => ⟨by rw [a1, b1], a2, b2⟩)
  have h3 : Led T w0 w (l ++ [Proofs.Ytihmbgdkllmkaaa.box bx 32 #[v], copiesT v ys]) := by simpa using h2
  exact h3.merge (fun f1 f2 ⟨a1, a2⟩ ⟨b1, b2, b3⟩ => ⟨by rw [a1, b1]; rfl, a2, b2, fun y hy => b3 _ (List.mem_map.2 ⟨y, hy, rfl⟩)⟩)
/-- All: an iterator over copies. -/
def AllTold (es : List ME) (w : World) (e : Ending) (w' : World) : Prop := ∃ bx a cap ys, e = .returned (.func (.func 69) #[] #[.pointer (some ⟨bx, 0, none⟩)]) ∧ ys.map ME.plain = es.map ME.plain ∧ Led [] w w' [allT bx (.slice a ys.length cap) ys]
set_option maxHeartbeats 1000000 in
theorem All_q (w : World) (g : Nat) (es : List ME) (h : QAt w g es) (hin : ∀ e ∈ es, e.v.In w ∧ e.v.nodes ≤ 256) (hlen : es.length ≤ 1048576) : Calls Try.prog 24 #[.pointer (some ⟨g, 0, none⟩)] w (AllTold es w) := by
  have HQA := Lib.hid h
  have HIN := Lib.hid hin
  clear h hin
  go_enter Try.func24, Try.ntmps24
  go_wp2_with fail
  refine wp_calls_name ?_
  intro w1 hw1
  have HL1 := Lib.hid ((Led.nil' w).al1 hw1)
  simp only [List.nil_append, List.cons_append] at HL1
  obtain ⟨b3, hb3⟩ : ∃ b, w.heap.size = b := ⟨_, rfl⟩
  rw [hb3] at HL1 ⊢
  clear hb3 hw1
  obtain ⟨a, cap, hb, hc1, hc2, hr⟩ := HQA.out.touch HL1.out.tch
  have HC := Lib.hid (copies_q w1 a cap es (ents_of_rowS hr) (fun e he => ⟨(HIN.out e he).1.touch0 HL1.out.tch, (HIN.out e he).2⟩) hlen)
  have q0 := hb.cell 0
  have q1 := hb.cell 1
  simp at q0 q1
  clear hb hr
  refine (none_no g w1 q0).mono ?_
  rintro e w' ⟨rfl, rfl⟩
  go_wp2_with fail
  refine HC.out.mono ?_
  rintro e w2 ⟨a2, c2, ys, rfl, hpl, hL⟩
  have HPL := Lib.hid hpl
  have HL2 : Hid (Led [] w w2 [box b3 32 #[.slice none 0 0], rowT 27 7 (.slice a2 es.length c2) es.length (entCells ys), valsT (ys.map ME.v)]) := HL1.out.join hL
  clear hL hpl
  obtain ⟨x0, fx, zx, _, _⟩ := HL2.out.c1 0 rfl
  go_wp2
  go_ret
  refine ⟨b3, a2, c2, ys, rfl, HPL.out, ?_⟩
  have hyl : ys.length = es.length := by have := congrArg List.length HPL.out; simpa using this
  have h := HL2.out.set 0 rfl 0 (.slice a2 es.length c2)
  simp only [List.set_cons_zero, List.setIfInBounds_toArray] at h
  have h2 := Led.shutAll (l := []) hyl h
  rw [hyl]
  exact h2
end Go.Proofs.Ytihmbgdkllmkaaa
