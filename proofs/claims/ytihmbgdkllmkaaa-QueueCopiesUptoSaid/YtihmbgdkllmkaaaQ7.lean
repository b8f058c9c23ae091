/-
  slices.IndexFunc and slices.DeleteFunc at entries; Purge (queue.go).
-/
import Derived.Test.YtihmbgdkllmkaaaQ5
import Derived.Test.YtihmbgdkllmkaaaSet
namespace Go.Proofs.Ytihmbgdkllmkaaa
open Go.RowKit Go.Shelf
set_option maxRecDepth 100000
set_option linter.unusedVariables false
set_option linter.unusedSimpArgs false

set_option maxHeartbeats 2000000 in
theorem IndexFunc_q (w : World) (a : Option Addr) (cap : Nat) (es : List ME) (fc : Nat) (caps : Array Value) (P : PE → Prop) (hents : EntsAt w a es) (hlen : es.length ≤ 9223372036854775807)
    (eg : ∀ args w, (callFunc fc args).run Try.prog w = .ok (.enter fc args) w) (hch : ∀ e ∈ es, ∀ W, Touch [] w W → Calls Try.prog fc (#[e.val] ++ caps) W (Tells (P e.plain) W)) :
    Calls Try.prog 106 #[.slice a es.length cap, .func (.func fc) #[] caps] w (IdxTold P (es.map ME.plain) 0 w) := by
  have HE := Lib.hid hents
  have HCH := Lib.hid hch
  clear hents hch
  simp only [ent_eq] at HCH
  go_enter Try.func106, Try.ntmps106
  go_wp2_with fail
  go_loopw [8] (fun i wr => ∃ j : Nat, i = .int .i64 (j : Int) ∧ j ≤ es.length ∧ Hid (∀ i (h : i < (es.map ME.plain).length), i < j → ¬ P (es.map ME.plain)[i]) ∧ Hid (Touch [] w wr)) (fun i _ => es.length - (intOf i).toNat)
  case atStart => exact ⟨0, rfl, Nat.zero_le _, by unfold Hid; intro i _ h1; omega, Touch.refl [] w⟩
  case round =>
    obtain ⟨j, rfl, hjf, HD, HT⟩ := hrel
    have hj0 : (0 : Int) ≤ (j : Int) := by omega
    by_cases hjl : j < es.length
    · have hjl' : (j : Int) < (es.length : Int) := by omega
      obtain ⟨b, o, rfl, hb, p0, p1, p2, p3, p4, p5, p6⟩ := (HE.out.touch HT.out) j hjl
      have HC := Lib.hid (HCH.out _ (List.getElem_mem hjl) wr HT.out)
      have HXJ : Hid ((es.map ME.plain)[j]'(by simpa using hjl) = es[j].plain) := by unfold Hid; simp
      generalize es[j] = x at p0 p1 p2 p3 p4 p5 p6 HC HXJ
      go_wp2_with fail
      refine HC.out.mono ?_
      rintro e w2 ⟨cc, rfl, hcc, ht⟩
      have HT2 := Lib.hid (HT.out.trans' ht)
      have HCC := Lib.hid hcc
      clear hcc ht p0 p1 p2 p3 p4 p5 p6 HC
      cases cc with
      | false =>
        go_wp2
        go_roundw
        case rel =>
          refine ⟨j + 1, by go_num, by omega, ?_, HT2⟩
          unfold Hid
          intro i h h2
          by_cases hij : i = j
          · subst hij
            rw [HXJ.out]
            intro hp
            have := HCC.out.2 hp
            cases this
          · exact HD.out i h (by omega)
        case measure => simp [intOf]; omega
      | true =>
        go_wp2
        go_ret
        refine ⟨(j : Int), rfl, .inr ⟨j, by simpa using hjl, rfl, by omega, ?_, fun i h h1 h2 => HD.out i h h2⟩, HT2.out⟩
        rw [HXJ.out]
        exact HCC.out.1 (by simp)
    · have hjl' : ¬ (j : Int) < (es.length : Int) := by omega
      go_wp2
      go_ret
      exact ⟨-1, rfl, .inl ⟨rfl, fun i h h1 => HD.out i h (by simp at h; omega)⟩, HT.out⟩

theorem wpList_clear_run {P : Program} (w : World) {ops : Array Oper} {rest : List Oper} {o : Oper} {a : Act} {Q : Exit → Act → World → Prop} (hgd : o.guard = none) (x : Operand) (t : TypeId)
    (ho : o.op = .call { callee := .builtin .clear, args := #[x], argTypes := #[t] }) (vx : Value) (hx : a.eval x = vx)
    (v' : Value) (w' : World) (hr : (Builtin.clear_ #[t] o.type #[vx]).run P w = .ok v' w') (h : wpList P ops Q rest (a.put o.dst v') w') : wpList P ops Q (o :: rest) a w :=
  wpList_plain hgd fun _ hK => by
    unfold Oper.wp execOp
    simp only [ho, resolve, invoke, builtin, Sem.run_bind, Sem.run_pure, Result.andThen_ok, List.map_toArray, List.map_cons, List.map_nil, hx, hr]
    exact hK _ _ h
section
variable {T : List Nat} {w0 w : World} {l : List Thing}
theorem Led.rowEnts (h : Led T w0 w l) (i : Nat) {e g n cap : Nat} {vs : List ME} (hi : l[i]? = some (rowT e 7 (.slice (some ⟨g, 0, none⟩) n cap) n (entCells vs))) {j : Nat} (hj : j < vs.length) :
    EntAt w g (j * 7) vs[j] ∧ (w.frozen? ⟨g, j * 7, none⟩ = false ∧ w.frozen? ⟨g, j * 7 + 1, none⟩ = false ∧ w.frozen? ⟨g, j * 7 + 2, none⟩ = false ∧ w.frozen? ⟨g, j * 7 + 3, none⟩ = false ∧ w.frozen? ⟨g, j * 7 + 4, none⟩ = false ∧ w.frozen? ⟨g, j * 7 + 5, none⟩ = false ∧ w.frozen? ⟨g, j * 7 + 6, none⟩ = false) ∧ g < w.heap.size := by
  have hr := h.rowSAt i hi
  have hl := entCells_length vs
  have hc : ∀ q, q < 7 → w.cell? ⟨g, j * 7 + q, none⟩ = vs[j].cells[q]? := fun q hq => by
    have hlt : j * 7 + q < (entCells vs).length := by omega
    rw [rowS_cell hr _ hlt, ← entCells_get vs j hj q hq, List.getElem?_eq_getElem hlt]
  exact ⟨⟨hc 0 (by omega), hc 1 (by omega), hc 2 (by omega), hc 3 (by omega), hc 4 (by omega), hc 5 (by omega), hc 6 (by omega)⟩, ⟨rowS_frozen hr _, rowS_frozen hr _, rowS_frozen hr _, rowS_frozen hr _, rowS_frozen hr _, rowS_frozen hr _, rowS_frozen hr _⟩, rowS_lt hr g (by simp [sb, Value.ownBlock])⟩
theorem Led.rowSetEnt (h : Led T w0 w l) (i : Nat) {e g n cap : Nat} {vs : List ME} (hi : l[i]? = some (rowT e 7 (.slice (some ⟨g, 0, none⟩) n cap) n (entCells vs))) {j : Nat} (hj : j < vs.length) (x : ME) :
    Led T w0 (((((((w.setCell ⟨g, j * 7, none⟩ (.int .i64 x.sync)).setCell ⟨g, j * 7 + 1, none⟩ (.int .i64 x.thread)).setCell ⟨g, j * 7 + 2, none⟩ (.int .i64 x.branch)).setCell ⟨g, j * 7 + 3, none⟩ (.int .i64 x.flag)).setCell ⟨g, j * 7 + 4, none⟩ (.int .i64 x.v.kind)).setCell ⟨g, j * 7 + 5, none⟩ (.int .i64 x.v.num)).setCell ⟨g, j * 7 + 6, none⟩ (.slice x.v.addr x.v.parts.length x.v.cap))
      (l.set i (rowT e 7 (.slice (some ⟨g, 0, none⟩) n cap) n (entCells (vs.set j x)))) := by
  have hl := (List.getElem?_eq_some_iff.1 hi).1
  have e : ∀ (l : List Thing) (t1 t2 : Thing), (l.set i t1).set i t2 = l.set i t2 := fun l t1 t2 => List.set_set t1
  have g : ∀ (t1 : Thing), (l.set i t1)[i]? = some t1 := fun t1 => List.getElem?_set_self hl
  have h1 := h.rowSset i hi (j * 7) (.int .i64 x.sync)
  have h2 := h1.rowSset i (g _) (j * 7 + 1) (.int .i64 x.thread)
  rw [e] at h2
  have h3 := h2.rowSset i (g _) (j * 7 + 2) (.int .i64 x.branch)
  rw [e] at h3
  have h4 := h3.rowSset i (g _) (j * 7 + 3) (.int .i64 x.flag)
  rw [e] at h4
  have h5 := h4.rowSset i (g _) (j * 7 + 4) (.int .i64 x.v.kind)
  rw [e] at h5
  have h6 := h5.rowSset i (g _) (j * 7 + 5) (.int .i64 x.v.num)
  rw [e] at h6
  have h7 := h6.rowSset i (g _) (j * 7 + 6) (.slice x.v.addr x.v.parts.length x.v.cap)
  rw [e] at h7
  rw [entCells_set vs j hj x]
  exact h7
end
/-- What DeleteFunc leaves. -/
def Deleted (T : List Nat) (w : World) (es : List ME) (p : PE → Bool) (a : Option Addr) (cap : Nat) (e : Ending) (w' : World) : Prop :=
  e = .returned (.slice a (es.filter fun e => !p e.plain).length cap) ∧ Led T w w' [rowT 27 7 (.slice a (es.filter fun e => !p e.plain).length cap) (es.filter fun e => !p e.plain).length (entCells (es.filter fun e => !p e.plain))]
theorem filter_take_succ (f : ME → Bool) {es : List ME} {j : Nat} (hj : j < es.length) : (es.take (j + 1)).filter f = (es.take j).filter f ++ (if f es[j] then [es[j]] else []) := by
  rw [List.take_add_one, List.getElem?_eq_getElem hj, Option.toList_some, List.filter_append]
  congr 1
  by_cases h : f es[j] = true <;> simp [h]
theorem filter_all (f : ME → Bool) {es : List ME} {j : Nat} (h : ∀ i (hi : i < es.length), i < j → f es[i] = true) : (es.take j).filter f = es.take j := by
  rw [List.filter_eq_self]
  intro x hx
  obtain ⟨i, hi, rfl⟩ := List.mem_iff_getElem.1 hx
  simp only [List.length_take] at hi
  rw [List.getElem_take]
  exact h i (by omega) (by omega)

set_option maxHeartbeats 4000000 in
theorem DeleteFunc_q (T : List Nat) (w : World) (a : Option Addr) (cap : Nat) (es : List ME) (fc : Nat) (caps : Array Value) (p : PE → Bool) (hL : Led T w w [rowT 27 7 (.slice a es.length cap) es.length (entCells es)]) (hcap : es.length ≤ cap) (hlen : es.length ≤ 1048576)
    (eg : ∀ args w, (callFunc fc args).run Try.prog w = .ok (.enter fc args) w) (hch : ∀ (e : ME) W, Touch T w W → Calls Try.prog fc (#[e.val] ++ caps) W (Tells (p e.plain = true) W)) :
    Calls Try.prog 66 #[.slice a es.length cap, .func (.func fc) #[] caps] w (Deleted T w es p a cap) := by
  have HL0 := Lib.hid hL
  have HI := Lib.hid (IndexFunc_q w a cap es fc caps (fun e => p e = true) (ents_of_rowS (hL.rowSAt 0 rfl)) (by omega) eg (fun e he W hW => hch e W ⟨hW.os, hW.tape, hW.output, hW.size, fun k hk _ => hW.block k hk (by simp)⟩))
  have HCH := Lib.hid hch
  simp only [ent_eq] at HCH
  clear hL hch
  go_enter Try.func66, Try.ntmps66
  go_wp2_with fail
  refine HI.out.mono ?_
  rintro e w1 ⟨r, rfl, hr, ht⟩
  have HL1 := Lib.hid (HL0.out.touch ht)
  clear ht HI HL0
  rcases hr with ⟨rfl, hno⟩ | ⟨j0, hj0, rfl, _, hp, hno⟩
  · have HF : Hid (es.filter (fun e => !p e.plain) = es) := by
      unfold Hid
      have := filter_all (fun e => !p e.plain) (es := es) (j := es.length) (fun i hi _ => by
        have := hno i (by simpa using hi) (by omega)
        simpa using this)
      rwa [List.take_length] at this
    clear hno
    go_wp2
    go_ret
    unfold Deleted
    rw [HF.out]
    exact ⟨rfl, HL1.out⟩
  · have hj0' : j0 < es.length := by simpa using hj0
    obtain ⟨gr, cap', cur, hv, _⟩ := rowS_form (HL1.out.rowSAt 0 rfl) (by omega)
    injection hv with hv1 _ hv3
    subst hv1 hv3
    have HF0 : Hid ((es.take (j0 + 1)).filter (fun e => !p e.plain) = es.take j0) := by
      unfold Hid
      rw [filter_take_succ _ hj0', filter_all (j := j0) _ (fun i hi hij => by
        have := hno i (by simpa using hi) (by omega) hij
        simpa using this)]
      have h2 : p es[j0].plain = true := by simpa using hp
      simp [h2]
    clear hno hp hj0
    have hjn : ((j0 : Int) == -1) = false := by first | (simp; done) | (simp; omega)
    go_wp2_with fail
    go_loopw [5, 6] (fun x y wr => ∃ (i j : Nat) (L : List ME), x = .int .i64 (i : Int) ∧ y = .int .i64 (j : Int) ∧ i < j ∧ j ≤ es.length ∧ L.length = es.length ∧ Hid (L.take i = (es.take j).filter fun e => !p e.plain) ∧ Hid (L.drop j = es.drop j) ∧ Hid (Led T w wr [rowT 27 7 (.slice (some ⟨gr, 0, none⟩) es.length cap) es.length (entCells L)])) (fun _ y _ => es.length - (intOf y).toNat)
    case atStart => exact ⟨j0, j0 + 1, es, rfl, by go_num, by omega, by omega, rfl, HF0.out.symm, rfl, HL1⟩
    case round =>
      obtain ⟨i, j, L, rfl, rfl, hij, hj, hll, HA, HB, HK⟩ := hrel
      have hi0 : (0 : Int) ≤ (i : Int) := by omega
      have hjj0 : (0 : Int) ≤ (j : Int) := by omega
      clear HL1
      by_cases hjl : j < es.length
      · have hjl' : (j : Int) < (es.length : Int) := by omega
        have hil' : (i : Int) < (es.length : Int) := by omega
        have hjL : j < L.length := by omega
        obtain ⟨⟨p0, p1, p2, p3, p4, p5, p6⟩, _, zg⟩ := HK.out.rowEnts 0 rfl hjL
        have HXE : Hid (L[j] = es[j]) := by
          unfold Hid
          have h := congrArg (fun l => l[0]?) HB.out
          simpa [hjL, hjl] using h
        have HFS := Lib.hid (filter_take_succ (fun e => !p e.plain) hjl)
        rw [HXE.out] at p0 p1 p2 p3 p4 p5 p6
        have HBS : Hid (L.drop (j + 1) = es.drop (j + 1)) := by
          unfold Hid
          have h := congrArg (List.drop 1) HB.out
          simpa [List.drop_drop, Nat.add_comm] using h
        generalize es[j] = x at p0 p1 p2 p3 p4 p5 p6 HFS
        clear HXE
        go_wp2_with fail
        refine wp_calls_name ?_
        intro w2 hw2
        have HL2 := Lib.hid (HK.out.al1 hw2)
        simp only [List.nil_append, List.cons_append] at HL2
        obtain ⟨b7, hb7⟩ : ∃ b, wr.heap.size = b := ⟨_, rfl⟩
        rw [hb7] at HL2 ⊢
        clear hw2 hb7 p0 p1 p2 p3 p4 p5 p6 zg
        refine (HCH.out x w2 HL2.out.tch).mono ?_
        rintro e w3 ⟨cc, rfl, hcc, ht⟩
        have HL3 := Lib.hid (HL2.out.touch ht)
        have HCC := Lib.hid hcc
        clear hcc ht HL2
        cases cc with
        | true =>
          go_wp2
          go_roundw
          case rel =>
            refine ⟨i, j + 1, L, rfl, by go_num, by omega, by omega, hll, ?_, HBS, HL3.out.sel [0] rfl (by decide)⟩
            unfold Hid
            have hp := HCC.out.1 (by simp)
            rw [HFS.out, HA.out]
            simp [hp]
          case measure => simp [intOf]; omega
        | false =>
          have hiL : i < L.length := by omega
          obtain ⟨⟨p0, p1, p2, p3, p4, p5, p6⟩, ⟨f0, f1, f2, f3, f4, f5, f6⟩, zg⟩ := HL3.out.rowEnts 0 rfl hiL
          obtain ⟨y0, y1, y2, y3, y4, y5, y6, _, zy, _, _⟩ := HL3.out.c7 1 rfl
          have n1 := HL3.out.rowSne 0 1 rfl rfl (by decide)
          have n2 := Ne.symm n1
          go_wp2
          have HL4 : Hid (Led T w _ [rowT 27 7 (.slice (some ⟨gr, 0, none⟩) es.length cap) es.length (entCells (L.set i x))]) := (HL3.out.rowSetEnt 0 rfl hiL x).sel [0] rfl (by decide)
          go_roundw
          case rel =>
            refine ⟨i + 1, j + 1, L.set i x, by go_num, by go_num, by omega, by omega, by simpa using hll, ?_, ?_, HL4⟩
            · unfold Hid
              have hp : ¬ p x.plain = true := fun h => by have := HCC.out.2 h; cases this
              rw [HFS.out, List.take_add_one, List.getElem?_set_self hiL, List.take_set_of_le (Nat.le_refl _), HA.out]
              simp [hp]
            · unfold Hid
              rw [List.drop_set_of_lt (by omega)]
              exact HBS.out
          case measure => simp [intOf]; omega
      · have hjl' : ¬ (j : Int) < (es.length : Int) := by omega
        obtain rfl : j = es.length := by omega
        obtain ⟨i0, hi0, iz0, iz1, iz2⟩ := info_parts info_ent
        obtain ⟨sa, hsa, hsl⟩ := run_slice_from Try.underlying32 hi0 (some ⟨gr, 0, none⟩) es.length cap i (by omega) hcap
        have hsl2 := fun W => run_slice_to Try.underlying32 hi0 (some ⟨gr, 0, none⟩) es.length cap i (by omega) W
        obtain ⟨w2, hrun, hrow, hgrow⟩ := run_clear_row (P := Try.prog) wr 32 0 27 i0 _ 7 Try.underlying32 hi0 iz0 iz1 rfl (by decide) gr es.length cap i (cap - i) (entCells L) (HK.out.rowSAt 0 rfl) (by omega) (by rw [iz1]) hsa
        have HFI : Hid (L.take i = es.filter fun e => !p e.plain) := by
          have h := HA.out
          rw [List.take_length] at h
          exact h
        have hil : (es.filter fun e => !p e.plain).length = i := by rw [← HFI.out]; simp; omega
        have HL2 : Hid (Led T w w2 [rowT 27 7 (.slice (some ⟨gr, 0, none⟩) i cap) i (entCells (L.take i))]) := by
          have h := HK.out.grownS 0 rfl hgrow hrow (.inl rfl)
          rw [entCells_take]
          exact h
        clear hrow hgrow HK hsa
        go_wp2_with (at_builtin; go_must (refine wpList_clear_run _ rfl (.tmp 38) 32 rfl (.slice sa (es.length - i) (cap - i)) rfl _ w2 hrun ?_))
        go_ret
        unfold Deleted
        rw [hil, ← HFI.out]
        exact ⟨rfl, HL2.out⟩

theorem zero_bool (w : World) : (zeroValue 4).run Try.prog w = .ok (.bool false) w := by kernel_rfl
theorem Purge1_q (e : ME) (b r : Nat) (zs : List Int) (w : World) (hb : w.cell? ⟨b, 0, none⟩ = some (.map (some r))) (hs : ∃ f, (setT r zs).holds w f) : Calls Try.prog 67 (#[e.val] ++ #[.pointer (some ⟨b, 0, none⟩)]) w (Tells (decide (e.plain.sync ∈ zs) = true) w) := by
  have hlt := World.block_lt_of_cell? _ _ hb
  obtain ⟨_, _, es, clock, ys, hr, hset, hys⟩ := hs
  have hlk : ∀ o, (Instr.lookup 118 (.map (some r)) (.int .i64 e.sync) false).run Try.prog (w.alloc o) = .ok (.bool (decide (e.sync ∈ ys))) (w.alloc o) := fun o =>
    run_setHas Try.underlying118 Try.underlying3 ((Below.heap_alloc w o r (Array.getElem?_eq_some_iff.1 hr).1).trans hr) hset (zero_bool _) e.sync
  have HY := Lib.hid hys
  clear hr hset hys
  simp only [ent_eq, List.append_toArray, List.cons_append, List.nil_append]
  go_enter Try.func67, Try.ntmps67
  go_wp2
  go_ret
  exact ⟨_, rfl, by simp [ME.plain, HY.out], (Touch.refl [] w).alloc _⟩

/-- Integers lie at an address. -/
def IntsAt (w : World) (a : Option Addr) (zs : List Int) : Prop := ∀ i (hi : i < zs.length), ∃ b o, a = some ⟨b, o, none⟩ ∧ b < w.heap.size ∧ w.cell? ⟨b, o + i, none⟩ = some (.int .i64 zs[i])
def Purged (T : List Nat) (w : World) (g : Nat) (es : List ME) (zs : List Int) (e : Ending) (w' : World) : Prop :=
  e = .returned (.int .i64 ((es.length - (es.filter fun e => !decide (e.plain.sync ∈ zs)).length : Nat) : Int)) ∧ Led T w w' [queueT g (es.filter fun e => !decide (e.plain.sync ∈ zs))]
theorem Led.setNew {T : List Nat} {w0 w : World} {l : List Thing} (h : Led T w0 w l) {w' : World} (e : w.alloc (.map #[] 0) = w') : Led T w0 w' (l ++ [setT w.heap.size []]) :=
  e ▸ h.new (t' := setT w.heap.size []) (f' := [w.heap.size]) ⟨rfl, #[], 0, [], heap_alloc_new w _, IsSet.nil, by simp⟩ ⟨(Touch.refl [] w).alloc _, fun k hk => .inr (by simp at hk; omega)⟩
theorem made_map (h : Int) (W : World) : (Instr.makeMap 118 (some (.int .i64 h))).run Try.prog W = .ok (.map (some W.heap.size)) (W.alloc (.map #[] 0)) := by
  simp [Instr.makeMap, run_underlying Try.underlying118, asInt, asIntOf, newObj]
  rfl
theorem Led.setAdd {T : List Nat} {w0 w : World} {l : List Thing} (h : Led T w0 w l) (i : Nat) {r : Nat} {xs : List Int} (hi : l[i]? = some (setT r xs)) (y : Int) :
    ∃ w', (Instr.mapUpdate 118 (.map (some r)) (.int .i64 y) (.bool true)).run Try.prog w = .ok () w' ∧ Led T w0 w' (l.set i (setT r (xs ++ [y]))) := by
  obtain ⟨f, ⟨hf, es, clock, ys, hr, hset, hys⟩, _, hs⟩ := h.step i hi
  subst hf
  obtain ⟨es', clock', xs', hrun, hset', hx'⟩ := run_setAdd (P := Try.prog) Try.underlying118 Try.underlying3 hr hset y
  have hlt := (Array.getElem?_eq_some_iff.1 hr).1
  refine ⟨_, hrun, hs _ (setT r (xs ++ [y])) [r] ⟨rfl, es', clock', xs', World.putObj_heap_same hlt, hset', fun z => ?_⟩ ⟨(Touch.refl _ w).putObj (.inr (by simp)) _, fun k hk => .inl hk⟩⟩
  rw [hx', hys]
  simp [or_comm]
set_option maxHeartbeats 4000000 in
theorem Purge_q (T : List Nat) (w : World) (g : Nat) (es : List ME) (a : Option Addr) (cap : Nat) (zs : List Int) (hL : Led T w w [queueT g es]) (hsrc : ∀ W, Touch T w W → IntsAt W a zs) (hes : es.length ≤ 1048576) (hzs : zs.length ≤ 1048576) :
    Calls Try.prog 23 #[.pointer (some ⟨g, 0, none⟩), .slice a zs.length cap] w (Purged T w g es zs) := by
  obtain ⟨qa, qc, hqc1, hqc2, h1⟩ := Led.openQ (l := []) hL
  have HK := Lib.hid h1
  simp only [List.nil_append] at HK
  have HSRC := Lib.hid hsrc
  clear h1 hL hsrc
  obtain ⟨q0, q1, fq0, fq1, zq, _, _⟩ := HK.out.c2 0 rfl
  go_enter Try.func23, Try.ntmps23
  go_wp2_with fail
  refine (none_no g w q0).mono ?_
  rintro e w' ⟨rfl, rfl⟩
  have hmk := made_map (zs.length : Int)
  go_wp2_with fail
  refine wp_name ?_
  intro w1 hw1
  have HL1 := Lib.hid ((HK.out.setNew rfl).al1 hw1)
  simp only [List.nil_append, List.cons_append, World.size_alloc] at HL1
  obtain ⟨b5, hb5⟩ : ∃ b, w.heap.size + 1 = b := ⟨_, rfl⟩
  rw [hb5] at HL1 ⊢
  obtain ⟨r, hr⟩ : ∃ b, w.heap.size = b := ⟨_, rfl⟩
  rw [hr] at HL1
  clear hb5 hr hw1 HK q0 q1 fq0 fq1 zq hmk
  go_loopw [16] (fun i wr => ∃ j : Nat, i = .int .i64 (j : Int) ∧ j ≤ zs.length ∧ Hid (Led T w wr [box g 67 #[.bool true, .slice qa es.length qc], rowT 27 7 (.slice qa es.length qc) es.length (entCells es), setT r (zs.take j), box b5 118 #[.map (some r)]])) (fun i _ => zs.length - (intOf i).toNat)
  case atStart => exact ⟨0, rfl, Nat.zero_le _, HL1⟩
  case round =>
    obtain ⟨j, rfl, hj, HK⟩ := hrel
    clear HL1
    have hj0 : (0 : Int) ≤ (j : Int) := by omega
    by_cases hjl : j < zs.length
    · have hjl' : (j : Int) < (zs.length : Int) := by omega
      obtain ⟨b, o, rfl, hb, p0⟩ := HSRC.out wr HK.out.tch j hjl
      have HTS : Hid (zs.take (j + 1) = zs.take j ++ [zs[j]]) := by
        unfold Hid
        rw [List.take_add_one, List.getElem?_eq_getElem hjl, Option.toList_some]
      obtain ⟨w2, hrun, hL2⟩ := HK.out.setAdd 2 rfl zs[j]
      generalize zs[j] = y at p0 HTS hrun hL2
      simp only [List.set_cons_succ, List.set_cons_zero] at hL2
      rw [← HTS.out] at hL2
      have HL2 := Lib.hid hL2
      obtain ⟨x0, fx, zx, _, _⟩ := HK.out.c1 3 rfl
      clear hL2
      go_wp2
      go_roundw
      case rel => exact ⟨j + 1, by go_num, by omega, HL2⟩
      case measure => simp [intOf]; omega
    · have hjl' : ¬ (j : Int) < (zs.length : Int) := by omega
      obtain rfl : j = zs.length := by omega
      rw [List.take_length] at HK
      obtain ⟨q0, q1, fq0, fq1, zq, _, _⟩ := HK.out.c2 0 rfl
      obtain ⟨x0, fx, zx, _, _⟩ := HK.out.c1 3 rfl
      go_wp2_with fail
      refine (count_q g _ _ _ wr q1).mono ?_
      rintro e w' ⟨rfl, rfl⟩
      obtain ⟨T', h1, _, hkeep, hback⟩ := HK.out.frameK 1 rfl
      have HD := Lib.hid (DeleteFunc_q T' wr qa qc es 67 #[.pointer (some ⟨b5, 0, none⟩)] (fun e => decide (e.sync ∈ zs)) h1 hqc1 hes (enters_of Try.func67 (by kernel_rfl) rfl) (fun e W hW => Purge1_q e b5 r zs W (by
        obtain ⟨f, _, hbb⟩ := hkeep W hW 3 _ (by decide) rfl
        exact hbb.cell 0) (hkeep W hW 2 _ (by decide) rfl)))
      have HBK := Lib.hid hback
      clear h1 hkeep hback
      go_wp2_with fail
      refine HD.out.mono ?_
      rintro e w3 ⟨rfl, hL3⟩
      have HL3 := Lib.hid (HBK.out _ _ [] hL3)
      simp only [List.set_cons_succ, List.set_cons_zero, List.append_nil] at HL3
      clear hL3 HBK HD q0 q1 fq0 fq1 zq x0 fx zx HK
      have hmle : (es.filter fun e => !decide (e.plain.sync ∈ zs)).length ≤ es.length := List.length_filter_le _ _
      have HFL : Hid (∃ fs, es.filter (fun e => !decide (e.plain.sync ∈ zs)) = fs) := ⟨_, rfl⟩
      obtain ⟨fs, hfs⟩ := HFL.out
      rw [hfs] at HL3 hmle ⊢
      have HFS := Lib.hid hfs
      clear hfs HFL
      obtain ⟨q0, q1, fq0, fq1, zq, _, _⟩ := HL3.out.c2 0 rfl
      go_wp2_with fail
      have HL4 := Lib.hid (HL3.out.set 0 rfl 1 (.slice qa fs.length qc))
      simp only [List.set_cons_succ, List.set_cons_zero, List.setIfInBounds_toArray] at HL4
      refine (count_q g _ _ _ _ (HL4.out.c2 0 rfl).2.1).mono ?_
      rintro e w' ⟨rfl, rfl⟩
      go_wp2
      go_ret
      unfold Purged
      rw [HFS.out]
      refine ⟨?_, Led.shutQ (l := []) (HL4.out.sel [0, 1] rfl (by decide))⟩
      rw [show ((es.length - fs.length : Nat) : Int) = (es.length : Int) - (fs.length : Int) by omega]
      rfl
end Go.Proofs.Ytihmbgdkllmkaaa
