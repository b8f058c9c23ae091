/-
  Layer 4: clone and Copy (val.go).
-/
import Derived.Test.YtihmbgdkllmkaaaValC
import Derived.Test.YtihmbgdkllmkaaaVals
import Derived.Deep.RegionHeld3
namespace Go.Proofs.Ytihmbgdkllmkaaa
open Go.RowKit Go.Shelf
set_option maxRecDepth 100000
set_option linter.unusedVariables false
set_option linter.unusedSimpArgs false

theorem info_val : (Try.prog.info? 25).map (fun i => (i.zero, i.size, i.bytes)) = some (some (.agg #[.int .i64 0, .int .i64 0, .slice none 0 0]), 3, 40) := by kernel_rfl
def valCells (l : List MT) : List Value := l.flatMap MT.cells
theorem valCells_length (l : List MT) : (valCells l).length = l.length * 3 := by
  induction l with
  | nil => rfl
  | cons x l ih => simp only [valCells, List.flatMap_cons, List.length_append, MT.cells_length, List.length_cons] at ih ⊢; omega
theorem valCells_append (a b : List MT) : valCells (a ++ b) = valCells a ++ valCells b := by simp [valCells]
theorem valCells_get (l : List MT) (i : Nat) (hi : i < l.length) (j : Nat) (hj : j < 3) : (valCells l)[i * 3 + j]? = l[i].cells[j]? := by
  induction l generalizing i with
  | nil => simp at hi
  | cons x l ih =>
    simp only [valCells, List.flatMap_cons]
    cases i with
    | zero =>
      rw [List.getElem?_append_left (by simp [MT.cells_length]; omega)]
      simp
    | succ i =>
      rw [List.getElem?_append_right (by simp [MT.cells_length]; omega)]
      have := ih i (by simpa using hi)
      simp only [MT.cells_length, List.getElem_cons_succ]
      rw [show (i + 1) * 3 + j - 3 = i * 3 + j from by omega]
      exact this
theorem valCells_set (l : List MT) (i : Nat) (hi : i < l.length) (x : MT) :
    valCells (l.set i x) = ((((valCells l).set (i * 3) (.int .i64 x.kind)).set (i * 3 + 1) (.int .i64 x.num)).set (i * 3 + 2) x.sl) := by
  induction l generalizing i with
  | nil => simp at hi
  | cons y l ih =>
    cases i with
    | zero => simp [valCells, MT.cells]
    | succ i =>
      have := ih i (by simpa using hi)
      simp only [valCells, List.set_cons_succ, List.flatMap_cons] at this ⊢
      rw [this]
      simp only [MT.cells, List.cons_append, List.nil_append]
      rw [show (i + 1) * 3 = i * 3 + 1 + 1 + 1 from by omega]
      simp only [List.set_cons_succ]
theorem row_at_of {w : World} {v : Value} {l : List MT} {e g cap : Nat} (h : rowS w e 3 (.slice (some ⟨g, 0, none⟩) l.length cap) l.length (valCells l)) : MT.RowAt w (some ⟨g, 0, none⟩) l := by
  intro i hi
  have hl := valCells_length l
  refine ⟨g, 0, rfl, rowS_lt h g (by simp [sb, Value.ownBlock]), fun j hj => ?_⟩
  have hlt : i * 3 + j < (valCells l).length := by omega
  have hc := rowS_cell h (i * 3 + j) hlt
  rw [← valCells_get l i hi j hj, Nat.zero_add, hc, List.getElem?_eq_getElem hlt]
section
variable {T : List Nat} {w0 w w' : World} {l : List Thing}
theorem Led.rowSset (h : Led T w0 w l) (i : Nat) {e size g n cap : Nat} {xs : List Value} (hi : l[i]? = some (rowT e size (.slice (some ⟨g, 0, none⟩) n cap) n xs)) (j : Nat) (u : Value) :
    Led T w0 (w.setCell ⟨g, j, none⟩ u) (l.set i (rowT e size (.slice (some ⟨g, 0, none⟩) n cap) n (xs.set j u))) := by
  obtain ⟨f, ⟨hf, hb⟩, _, hs⟩ := h.step i hi
  subst hf
  exact hs _ _ _ ⟨rfl, rowS_set hb j u⟩ ⟨(Touch.refl _ w).setCell _ _ (.inl (by simp [sb, Value.ownBlock])), fun k hk => .inl hk⟩
theorem Led.rowSne (h : Led T w0 w l) (i j : Nat) {e size g n cap : Nat} {xs : List Value} {b t : Nat} {cs : Array Value} (hi : l[i]? = some (rowT e size (.slice (some ⟨g, 0, none⟩) n cap) n xs)) (hj : l[j]? = some (Proofs.Ytihmbgdkllmkaaa.box b t cs)) (hij : i ≠ j) : g ≠ b := by
  obtain ⟨_, F, h1, h2⟩ := h
  have e1 := (h1 i _ hi).1.1
  have e2 := (h1 j _ hj).1.1
  have := h2 i j (List.getElem?_eq_some_iff.1 hi).1 (List.getElem?_eq_some_iff.1 hj).1 hij g (by rw [e1]; simp [sb, Value.ownBlock])
  rw [e2] at this
  simpa using this
end
theorem Led.rowVals {T : List Nat} {w0 w : World} {l : List Thing} (h : Led T w0 w l) (i : Nat) {e g n cap : Nat} {vs : List MT} (hi : l[i]? = some (rowT e 3 (.slice (some ⟨g, 0, none⟩) n cap) n (valCells vs))) {j : Nat} (hj : j < vs.length) :
    w.cell? ⟨g, j * 3, none⟩ = some (.int .i64 vs[j].kind) ∧ w.cell? ⟨g, j * 3 + 1, none⟩ = some (.int .i64 vs[j].num) ∧ w.cell? ⟨g, j * 3 + 2, none⟩ = some vs[j].sl ∧ w.frozen? ⟨g, j * 3, none⟩ = false ∧ w.frozen? ⟨g, j * 3 + 1, none⟩ = false ∧ w.frozen? ⟨g, j * 3 + 2, none⟩ = false ∧ g < w.heap.size := by
  have hr := h.rowSAt i hi
  have hl := valCells_length vs
  have hc : ∀ q, q < 3 → w.cell? ⟨g, j * 3 + q, none⟩ = vs[j].cells[q]? := fun q hq => by
    have hlt : j * 3 + q < (valCells vs).length := by omega
    rw [rowS_cell hr _ hlt, ← valCells_get vs j hj q hq, List.getElem?_eq_getElem hlt]
  exact ⟨hc 0 (by omega), hc 1 (by omega), hc 2 (by omega), rowS_frozen hr _, rowS_frozen hr _, rowS_frozen hr _, rowS_lt hr g (by simp [sb, Value.ownBlock])⟩
/-- So many zero values, as a block. -/
def zeroVals (m : Nat) : Array Value := (valCells (List.replicate m MT.zero)).toArray
theorem madeCells_val (m : Nat) : madeCells #[.int .i64 0, .int .i64 0, .slice none 0 0] (m * 3) = zeroVals m := by
  apply Array.ext
  · simp [madeCells, zeroVals, valCells_length]
  · intro i h1 h2
    have hi : i < m * 3 := by simpa [madeCells] using h1
    have hg := valCells_get (List.replicate m MT.zero) (i / 3) (by simp; omega) (i % 3) (by omega)
    rw [show i / 3 * 3 + i % 3 = i by omega] at hg
    have : (zeroVals m)[i]? = (MT.zero.cells)[i % 3]? := by
      simp only [zeroVals, List.getElem?_toArray]
      rw [hg]
      simp
    rw [Array.getElem?_eq_getElem h2] at this
    have h3 : i % 3 = 0 ∨ i % 3 = 1 ∨ i % 3 = 2 := by omega
    simp only [madeCells, Array.getElem_ofFn]
    rcases h3 with h3 | h3 | h3 <;> simp [h3, MT.cells, MT.zero, MT.kind, MT.num, MT.sl, MT.addr, MT.parts, MT.cap] at this ⊢ <;> exact this.symm
theorem made_vals (m : Nat) (hm : m ≤ 1048576) (W : World) : (Instr.makeSlice 23 (.int .i64 (m : Int)) (.int .i64 (m : Int))).run Try.prog W =
    .ok (.slice (some ⟨W.heap.size, 0, none⟩) m m) (W.alloc (.cells (zeroVals m) 25)) := by
  obtain ⟨i0, hi, iz0, iz1, iz2⟩ := info_parts info_val
  have hr := run_make (P := Try.prog) W 23 25 i0 _ Try.underlying23 hi iz0 .i64 .i64 m m (by omega) (by omega) (by rw [iz2]; omega) (by omega)
  rw [iz1] at hr
  simpa [Value.cells, madeCells_val] using hr
theorem row_zero (m : Nat) (hm : m ≤ 1048576) (W : World) : rowS (W.alloc (.cells (zeroVals m) 25)) 25 3 (.slice (some ⟨W.heap.size, 0, none⟩) m m) m (valCells (List.replicate m MT.zero)) := by
  have hl := valCells_length (List.replicate m MT.zero)
  rw [List.length_replicate] at hl
  exact ⟨hl, .inr ⟨W.heap.size, m, zeroVals m, rfl, heap_alloc_new W _, Nat.le_refl _, by simp only [maxLen]; omega, by simp [zeroVals, hl], List.take_of_length_le (by simp [zeroVals, hl])⟩⟩

theorem Led.makeVals {T : List Nat} {w0 w : World} {l : List Thing} (h : Led T w0 w l) (m : Nat) (hm : m ≤ 1048576) {w' : World} (e : w.alloc (.cells (zeroVals m) 25) = w') : Led T w0 w' (l ++ [rowT 25 3 (.slice (some ⟨w.heap.size, 0, none⟩) m m) m (valCells (List.replicate m MT.zero))]) :=
  e ▸ h.new (t' := rowT 25 3 (.slice (some ⟨w.heap.size, 0, none⟩) m m) m (valCells (List.replicate m MT.zero))) ⟨rfl, row_zero m hm w⟩ ⟨(Touch.refl [] w).alloc _, fun k hk => .inr (by simp [sb, Value.ownBlock] at hk; omega)⟩
theorem build_val (k n : Int) (w : World) : (Instr.build 25 #[(0, .int .i64 k), (1, .int .i64 n)]).run Try.prog w = .ok (.agg #[.int .i64 k, .int .i64 n, .slice none 0 0]) w := run_build w 25 _ _ (by kernel_rfl)
attribute [local go_sem] build_val
/-- The world gets a name ahead of a call. -/
theorem wp_calls_name {P : Program} {f : FuncId} {args : Array Value} {Q : Ending → World → Prop} {W : World} (h : ∀ w2, W = w2 → Calls P f args w2 Q) : Calls P f args W Q := h W rfl
theorem set_fill (d : List MT) (t : MT) {j m : Nat} (hd : d.length = j) (hj : j < m) : (d ++ List.replicate (m - j) MT.zero).set j t = (d ++ [t]) ++ List.replicate (m - (j + 1)) MT.zero := by
  rw [List.set_append_right _ _ (by omega), hd, Nat.sub_self, show m - j = (m - (j + 1)) + 1 by omega, List.replicate_succ, List.set_cons_zero, List.append_assoc]
  rfl
theorem Led.rowge {T : List Nat} {w0 w : World} {l : List Thing} (h : Led T w0 w l) (i : Nat) {e size g n cap : Nat} {xs : List Value} (hi : l[i]? = some (rowT e size (.slice (some ⟨g, 0, none⟩) n cap) n xs)) : g ∈ T ∨ w0.heap.size ≤ g := by
  obtain ⟨f, ⟨hf, _⟩, hg⟩ := h.get i hi
  exact hg g (by rw [hf]; simp [sb, Value.ownBlock])
/-- A copy of a value: new memory, the same parts. -/
def Cloned (t : MT) (w : World) (e : Ending) (w' : World) : Prop := ∃ t' : MT, e = .returned t'.val ∧ t'.plain = t.plain ∧ t'.In w' ∧ (∀ k ∈ t'.blocks, w.heap.size ≤ k) ∧ Touch [] w w'

set_option maxHeartbeats 4000000 in
theorem clone_val : ∀ (t : MT) (w : World), t.In w → t.nodes ≤ 1048576 → Calls Try.prog 116 #[t.val] w (Cloned t w) := by
  intro t
  induction t using MT.ind with
  | h k n a c l ih =>
  intro w hin hno
  have HIN := Lib.hid hin
  have HIH := Lib.hid ih
  have hlen : l.length ≤ 1048576 := by
    have := MT.length_le l
    simp only [MT.nodes] at hno
    omega
  have HNO := Lib.hid (fun u (hu : u ∈ l) => Nat.le_trans (Nat.le_of_lt (MT.parts_lt (t := .mk k n a c l) hu)) hno)
  clear hin ih hno
  simp only [MT.val, MT.kind, MT.num, MT.sl, MT.addr, MT.parts, MT.cap]
  have z0 : w.heap.size < w.heap.size + 1 + 1 := by omega
  have z1 : w.heap.size < w.heap.size + 1 + 1 + 1 := by omega
  have z2 : w.heap.size + 1 < w.heap.size + 1 + 1 + 1 := by omega
  have z3 : w.heap.size + 1 + 1 < w.heap.size + 1 + 1 + 1 := by omega
  by_cases hl0 : l.length = 0
  · obtain rfl : l = [] := List.eq_nil_of_length_eq_zero hl0
    simp only [List.length_nil]
    go_enter Try.func116, Try.ntmps116
    go_wp2
    refine bodyPost_ret (v := (MT.mk k n none 0 []).val) (by simp [results, Try.results116, go_sem, MT.val, MT.kind, MT.num, MT.sl, MT.addr, MT.parts, MT.cap]) rfl ?_
    refine ⟨.mk k n none 0 [], rfl, by simp [MT.plain], MT.in_mk (by simp) (fun i hi => by simp at hi) (by simp), by simp [MT.blocks, MT.blocksAll], ?_⟩
    exact (((Touch.refl [] w).alloc _).alloc _).alloc _
  · have hmk := made_vals l.length hlen
    have hl1 : (0 : Int) < (l.length : Int) := by omega
    have hl2 : 0 < l.length := by omega
    go_enter Try.func116, Try.ntmps116
    go_wp2_with fail
    refine wp_name ?_
    intro w1 hw1
    have HL1 := Lib.hid (((((Led.nil' w).alloc _ _).alloc _ _).alloc _ _).makeVals l.length hlen hw1).vals0
    simp only [List.nil_append, List.cons_append, World.size_alloc] at HL1
    obtain ⟨gg, hgg⟩ : ∃ b, w.heap.size + 1 + 1 + 1 = b := ⟨_, rfl⟩
    rw [hgg] at HL1 ⊢
    obtain ⟨b3, hb3⟩ : ∃ b, w.heap.size + 1 + 1 = b := ⟨_, rfl⟩
    rw [hb3] at HL1 ⊢
    obtain ⟨b2, hb2⟩ : ∃ b, w.heap.size + 1 = b := ⟨_, rfl⟩
    rw [hb2] at HL1 ⊢
    obtain ⟨b1, hb1⟩ : ∃ b, w.heap.size = b := ⟨_, rfl⟩
    rw [hb1] at HL1 ⊢
    have HB1 := Lib.hid hb1
    clear hgg hb3 hb2 hb1 hw1 z0 z1 z2 z3
    go_loopw [23] (fun i wr => ∃ (j : Nat) (d : List MT), j ≤ l.length ∧ i = .int .i64 (j : Int) ∧ d.length = j ∧ Hid (d.map MT.plain = (l.take j).map MT.plain ∧ ∀ t ∈ d, ∀ k ∈ t.blocks, w.heap.size ≤ k) ∧
      Hid (Led [] w wr [box b1 25 #[.int .i64 k, .int .i64 n, .slice a l.length c], box b2 25 #[.int .i64 0, .int .i64 0, .slice none 0 0], box b3 25 #[.int .i64 k, .int .i64 n, .slice (some ⟨gg, 0, none⟩) l.length l.length], rowT 25 3 (.slice (some ⟨gg, 0, none⟩) l.length l.length) l.length (valCells (d ++ List.replicate (l.length - j) MT.zero)), valsT d])) (fun i _ => l.length - (intOf i).toNat)
    case atStart => exact ⟨0, [], Nat.zero_le _, rfl, rfl, ⟨rfl, by simp⟩, by simpa using HL1⟩
    case round =>
      obtain ⟨j, d, hj, rfl, hdl, HD, HK⟩ := hrel
      clear HL1
      by_cases hjl : j < l.length
      · have hjl' : (j : Int) < (l.length : Int) := by omega
        obtain ⟨b, o, rfl, hb, c0, c1, c2⟩ := (HIN.out.touch0 HK.out.tch).row.cellAt hjl
        have HU := Lib.hid ((HIN.out.touch0 HK.out.tch).part (List.getElem_mem hjl))
        have HI := Lib.hid (HIH.out _ (List.getElem_mem hjl))
        have HN := Lib.hid (HNO.out _ (List.getElem_mem hjl))
        have HTS : Hid ((l.take (j + 1)).map MT.plain = (l.take j).map MT.plain ++ [l[j].plain]) := by
          unfold Hid
          rw [List.take_add_one, List.getElem?_eq_getElem hjl, Option.toList_some, List.map_append]
          rfl
        simp only [MT.parts] at c0 c1 c2 HU HI HN
        generalize l[j] = u at c0 c1 c2 HU HI HN HTS
        simp only [MT.sl] at c2
        clear HIN HIH HNO
        go_wp2_with fail
        refine wp_name ?_
        intro w2 hw2
        have HL2 := Lib.hid (HK.out.al1 hw2)
        have HU2 : Hid (u.In w2.drew) := hw2 ▸ (HU.out.alloc _).touch0 ((Touch.refl [] _).drew)
        simp only [List.nil_append, List.cons_append] at HL2
        obtain ⟨b5, hb5⟩ : ∃ b, wr.heap.size = b := ⟨_, rfl⟩
        rw [hb5] at HL2 ⊢
        have HB5 : Hid (w.heap.size ≤ b5) := hb5 ▸ HK.out.size
        clear hw2 hb5 HK c0 c1 c2 hb HU
        have hj0 : (0 : Int) ≤ (j : Int) := by omega
        obtain ⟨x0, x1, x2, _, _, _, zx, _, _⟩ := HL2.out.c3 5 rfl
        obtain ⟨y0, y1, y2, _, _, _, zy, _, _⟩ := HL2.out.c3 2 rfl
        have n1 := HL2.out.rowSne 3 2 rfl rfl (by decide)
        have n2 := HL2.out.rowSne 3 5 rfl rfl (by decide)
        have n3 := Ne.symm n1
        have n4 := Ne.symm n2
        go_region_held3 (fun w' => w'.cell? ⟨b3, 2, none⟩ = some (.slice (some ⟨gg, 0, none⟩) l.length l.length) ∧ w'.cell? ⟨b5, 0, none⟩ = some (.int .i64 u.kind) ∧ w'.cell? ⟨b5, 1, none⟩ = some (.int .i64 u.num) ∧ w'.cell? ⟨b5, 2, none⟩ = some (.slice u.addr u.parts.length u.cap)) (go_keep)
          (first
          | (go_at_call 116; refine (HI.out w2.drew HU2.out HN.out).mono ?_; rintro e w3 ⟨t', rfl, hpl, hin, hnew, ht⟩; have HL3 := Lib.hid (HL2.out.drew.valsNew (vs := [t']) ht (by simpa using hin) (by simpa using hnew)); simp only [List.nil_append, List.cons_append] at HL3; have HPL := Lib.hid hpl; have HNW : Hid (∀ k ∈ t'.blocks, w.heap.size ≤ k) := fun k hk => Nat.le_trans HL2.out.size (hnew k hk); clear hpl hin hnew ht x0 x1 x2 y0 y1 y2 zx zy; obtain ⟨x0, x1, x2, _, _, _, zx, _, _⟩ := HL3.out.c3 5 rfl; obtain ⟨y0, y1, y2, _, _, _, zy, _, _⟩ := HL3.out.c3 2 rfl; obtain ⟨g0, g1, g2, h0, h1, h2, zg⟩ := HL3.out.rowVals 3 rfl (show j < _ by simp; omega); simp only [MT.val, MT.sl]))
        clear x0 x1 x2 y0 y1 y2 g0 g1 g2
        have HL4 : Hid (Led [] w (((w3.setCell ⟨gg, j * 3, none⟩ (.int .i64 t'.kind)).setCell ⟨gg, j * 3 + 1, none⟩ (.int .i64 t'.num)).setCell ⟨gg, j * 3 + 2, none⟩ t'.sl) [box b1 25 #[.int .i64 k, .int .i64 n, .slice (some ⟨b, o, none⟩) l.length c], box b2 25 #[.int .i64 0, .int .i64 0, .slice none 0 0], box b3 25 #[.int .i64 k, .int .i64 n, .slice (some ⟨gg, 0, none⟩) l.length l.length], rowT 25 3 (.slice (some ⟨gg, 0, none⟩) l.length l.length) l.length (valCells ((d ++ [t']) ++ List.replicate (l.length - (j + 1)) MT.zero)), valsT (d ++ [t'])]) := by
          have h := ((HL3.out.rowSset 3 rfl (j * 3) (.int .i64 t'.kind)).rowSset 3 rfl (j * 3 + 1) (.int .i64 t'.num)).rowSset 3 rfl (j * 3 + 2) t'.sl
          simp only [List.set_cons_succ, List.set_cons_zero] at h
          rw [← valCells_set _ j (by simp; omega) t', set_fill d t' hdl hjl] at h
          exact Led.valsJoin (l := [_, _, _, _]) (h.sel [0, 1, 2, 3, 4, 6] rfl (by decide))
        clear HL3 HL2
        go_wp2
        go_roundw
        case rel =>
          refine ⟨j + 1, d ++ [t'], by omega, by go_num, by simp [hdl], ⟨?_, ?_⟩, HL4⟩
          · rw [List.map_append, HD.out.1, HTS.out, ← HPL.out]
            rfl
          · intro t ht
            rcases List.mem_append.1 ht with h | h
            · exact HD.out.2 t h
            · simp at h; subst h; exact HNW.out
        case measure => simp [intOf]; omega
      · have hjl' : ¬ (j : Int) < (l.length : Int) := by omega
        obtain rfl : j = l.length := by omega
        obtain ⟨y0, y1, y2, _, _, _, zy, _, _⟩ := HK.out.c3 2 rfl
        obtain ⟨x0, x1, x2, f0, f1, f2, zx, _, _⟩ := HK.out.c3 1 rfl
        have n1 := HK.out.ne 1 2 rfl rfl (by decide)
        have n2 := Ne.symm n1
        go_wp2
        have HL4 := Lib.hid (((HK.out.set 1 rfl 0 (.int .i64 k)).set 1 rfl 1 (.int .i64 n)).set 1 rfl 2 (.slice (some ⟨gg, 0, none⟩) l.length l.length))
        simp only [List.set_cons_succ, List.set_cons_zero, List.setIfInBounds_toArray] at HL4
        obtain ⟨q0, q1, q2, _⟩ := HL4.out.c3 1 rfl
        have hv : (MT.mk k n (some ⟨gg, 0, none⟩) l.length d).val = .agg #[.int .i64 k, .int .i64 n, .slice (some ⟨gg, 0, none⟩) l.length l.length] := by simp [MT.val, MT.kind, MT.num, MT.sl, MT.addr, MT.parts, MT.cap, hdl]
        refine bodyPost_ret (v := (MT.mk k n (some ⟨gg, 0, none⟩) l.length d).val) (by rw [hv]; simp [results, Try.results116, go_sem, q0, q1, q2]) rfl ?_
        refine ⟨_, rfl, ?_, ?_, ?_, HL4.out.tch⟩
        · simp only [MT.plain, MT.plainAll_map]
          rw [HD.out.1, List.take_length]
        · have hr := HL4.out.rowSAt 3 rfl
          simp only [Nat.sub_self, List.replicate_zero, List.append_nil] at hr
          exact MT.in_mk (by omega) (row_at_of (v := .bool true) (show rowS _ 25 3 (.slice (some ⟨gg, 0, none⟩) d.length l.length) d.length (valCells d) by rw [hdl]; exact hr)) (HL4.out.valsIn 4 rfl)
        · intro b hb
          simp only [MT.blocks, List.mem_append] at hb
          rcases hb with hb | hb
          · rw [if_neg (by omega)] at hb
            simp at hb
            subst hb
            exact (HL4.out.rowge 3 rfl).elim (by simp) id
          · obtain ⟨t, ht, hk⟩ := MT.blocksAll_mem.1 hb
            exact HD.out.2 t ht b hk

theorem Copy_val (t : MT) (w : World) (h : t.In w) (hn : t.nodes ≤ 256) : Calls Try.prog 101 #[t.val] w (Cloned t w) := by
  have H := Lib.hid (fun W (hW : Touch [] w W) => small_val t W (h.touch0 hW))
  have H2 := Lib.hid (fun W (hW : Touch [] w W) => clone_val t W (h.touch0 hW) (by omega))
  have HN : Hid (decide (t.nodes ≤ 256) = true) := decide_eq_true hn
  clear h hn
  have z0 : w.heap.size < w.heap.size + 1 + 1 := by omega
  have z1 : w.heap.size < w.heap.size + 1 := by omega
  simp only [MT.val, MT.sl] at H H2 ⊢
  go_enter Try.func101, Try.ntmps101
  go_wp2_with fail
  refine wp_calls_name ?_
  intro w1 hw1
  have HL1 := Lib.hid ((Led.nil' w).al2 hw1)
  simp only [List.nil_append, List.cons_append] at HL1
  refine (H.out _ HL1.out.tch).mono ?_
  rintro e w2 ⟨rfl, ht⟩
  rw [HN.out]
  have HL2 := Lib.hid (HL1.out.touch ht)
  clear ht hw1 HL1
  obtain ⟨b2, hb2⟩ : ∃ b, w.heap.size + 1 = b := ⟨_, rfl⟩
  rw [hb2] at HL2 ⊢
  obtain ⟨b1, hb1⟩ : ∃ b, w.heap.size = b := ⟨_, rfl⟩
  rw [hb1] at HL2 ⊢
  clear hb2 hb1 z0 z1
  obtain ⟨y0, y1, y2, _, _, _, zy, _, _⟩ := HL2.out.c3 0 rfl
  go_wp2_with fail
  refine (H2.out _ HL2.out.tch).mono ?_
  rintro e w3 ⟨t', rfl, hpl, hin, hnew, ht⟩
  have HL3 := Lib.hid (HL2.out.valsNew (vs := [t']) ht (by simpa using hin) (by simpa using hnew))
  simp only [List.nil_append, List.cons_append] at HL3
  have HNW : Hid (∀ k ∈ t'.blocks, w.heap.size ≤ k) := fun k hk => Nat.le_trans HL2.out.size (hnew k hk)
  have HPL := Lib.hid hpl
  clear hpl hin hnew ht y0 y1 y2 zy HL2
  obtain ⟨x0, x1, x2, f0, f1, f2, zx, _, _⟩ := HL3.out.c3 1 rfl
  simp only [MT.val, MT.sl]
  go_wp2
  have HL4 := Lib.hid (((HL3.out.set 1 rfl 0 (.int .i64 t'.kind)).set 1 rfl 1 (.int .i64 t'.num)).set 1 rfl 2 (.slice t'.addr t'.parts.length t'.cap))
  simp only [List.set_cons_succ, List.set_cons_zero, List.setIfInBounds_toArray] at HL4
  obtain ⟨q0, q1, q2, _⟩ := HL4.out.c3 1 rfl
  refine bodyPost_ret (v := t'.val) (by simp [results, Try.results101, go_sem, q0, q1, q2, MT.val, MT.sl]) rfl ?_
  exact ⟨t', rfl, HPL.out, HL4.out.valsIn 2 rfl t' (by simp), HNW.out, HL4.out.tch⟩
end Go.Proofs.Ytihmbgdkllmkaaa
