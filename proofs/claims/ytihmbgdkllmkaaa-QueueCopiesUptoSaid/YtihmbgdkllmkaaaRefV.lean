/-
  The reference of layer 4 (betrothalref04/ref.go): Size, Right, Same.
-/
import Derived.Test.YtihmbgdkllmkaaaValV
import Derived.Test.YtihmbgdkllmkaaaSlice
import Derived.Lib.AppendZeros
namespace Go.Proofs.Ytihmbgdkllmkaaa
open Go.RowKit Go.Shelf
set_option maxRecDepth 100000
set_option linter.unusedVariables false
set_option linter.unusedSimpArgs false

/-- At a step of a region that draws its order: append onto a row with spare cells, out of whatever cells. -/
theorem step_append_S {P : Program} (w : World) {ops : Array Oper} {o : Oper} {a : Act} {K : Act → World → Prop} {Q : Exit → Act → World → Prop} {E : Prop} (hgd : o.guard = none) (s x : Operand) (t : TypeId)
    (ho : o.op = .call { callee := .builtin .append, args := #[s, x], argTypes := #[t, t] })
    (e : TypeId) (i : TypeInfo) (z : Value) (size bytes : Nat) (ht : P.underlying t = some (.slice e)) (hi : P.info? e = some i) (hz : i.zero = some z)
    (hsize : i.size = size) (hby : i.bytes = bytes) (hzs : z.cells.size = size) (hsz : 0 < size)
    (v : Value) (n : Nat) (xs : List Value) (hs : a.eval s = v) (hown : rowS w e size v n xs) (sa : Option Addr) (m c : Nat) (news : List Value) (hx : a.eval x = .slice sa m c) (hl : news.length = m * size) (hsa : m = 0 ∨ ∃ a, sa = some a ∧ ∀ j u, news[j]? = some u → w.cell? (a.add j) = some u) (h1 : ∀ u ∈ news, u.oneCell' = true)
    (h63 : n + m ≤ maxLen) (hbytes : (n + m) * bytes ≤ 140737488355328)
    (h : ∀ aa cap w', rowS w' e size (.slice aa (n + m) cap) (n + m) (xs ++ news) → w.grownBy w' v.ownBlock → ((Value.slice aa (n + m) cap).ownBlock = v.ownBlock ∨ (Value.slice aa (n + m) cap).ownBlock = some w.heap.size) → K (a.put o.dst (.slice aa (n + m) cap)) w') :
    if Region.wanted o (yielded ops a.tmps) = true then Oper.wp P o a w K Q else E := by
  obtain ⟨aa, cap, w', hr, h2, h3, h4⟩ := run_append_S (P := P) w t o.type e i z size bytes ht hi hz hsize hby hzs hsz v n xs hown sa m c news hl hsa h1 h63 hbytes
  rw [if_pos (by simp [Region.wanted, hgd])]
  unfold Oper.wp execOp
  simp only [ho, resolve, invoke, builtin, Sem.run_bind, Sem.run_pure, Result.andThen_ok, List.map_toArray, List.map_cons, List.map_nil, hs, hx, hr]
  exact h aa cap w' h2 h3 h4
/-- At the operation, in a plain region. -/
theorem wpList_append_S {P : Program} (w : World) {ops : Array Oper} {rest : List Oper} {o : Oper} {a : Act} {Q : Exit → Act → World → Prop} (hgd : o.guard = none) (s x : Operand) (t : TypeId)
    (ho : o.op = .call { callee := .builtin .append, args := #[s, x], argTypes := #[t, t] })
    (e : TypeId) (i : TypeInfo) (z : Value) (size bytes : Nat) (ht : P.underlying t = some (.slice e)) (hi : P.info? e = some i) (hz : i.zero = some z)
    (hsize : i.size = size) (hby : i.bytes = bytes) (hzs : z.cells.size = size) (hsz : 0 < size)
    (v : Value) (n : Nat) (xs : List Value) (hs : a.eval s = v) (hown : rowS w e size v n xs) (sa : Option Addr) (m c : Nat) (news : List Value) (hx : a.eval x = .slice sa m c) (hl : news.length = m * size) (hsa : m = 0 ∨ ∃ a, sa = some a ∧ ∀ j u, news[j]? = some u → w.cell? (a.add j) = some u) (h1 : ∀ u ∈ news, u.oneCell' = true)
    (h63 : n + m ≤ maxLen) (hbytes : (n + m) * bytes ≤ 140737488355328)
    (h : ∀ aa cap w', rowS w' e size (.slice aa (n + m) cap) (n + m) (xs ++ news) → w.grownBy w' v.ownBlock → ((Value.slice aa (n + m) cap).ownBlock = v.ownBlock ∨ (Value.slice aa (n + m) cap).ownBlock = some w.heap.size) → wpList P ops Q rest (a.put o.dst (.slice aa (n + m) cap)) w') :
    wpList P ops Q (o :: rest) a w := by
  obtain ⟨aa, cap, w', hr, h2, h3, h4⟩ := run_append_S (P := P) w t o.type e i z size bytes ht hi hz hsize hby hzs hsz v n xs hown sa m c news hl hsa h1 h63 hbytes
  exact Lib.wpList_append_run w hgd s x t t ho v _ hs hx _ w' hr (h aa cap w' h2 h3 h4)

theorem vals_one (l : List MT) : ∀ u ∈ valCells l, u.oneCell' = true := by
  intro u hu
  obtain ⟨t, _, hu⟩ := List.mem_flatMap.1 hu
  simp only [MT.cells, List.mem_cons, List.not_mem_nil, or_false] at hu
  rcases hu with rfl | rfl | rfl <;> rfl
theorem MT.RowAt.src {w : World} {a : Option Addr} {l : List MT} (h : MT.RowAt w a l) : l.length = 0 ∨ ∃ ad, a = some ad ∧ ∀ j u, (valCells l)[j]? = some u → w.cell? (ad.add j) = some u := by
  by_cases hl : l.length = 0
  · exact .inl hl
  · obtain ⟨b, o, rfl, _, _⟩ := h 0 (by omega)
    refine .inr ⟨_, rfl, fun j u hu => ?_⟩
    have hlen := valCells_length l
    obtain ⟨hj, _⟩ := List.getElem?_eq_some_iff.1 hu
    obtain ⟨b', o', he, _, hc⟩ := h (j / 3) (by omega)
    injection he with he
    injection he with h1 h2
    subst h1 h2
    have := hc (j % 3) (by omega)
    rw [← valCells_get l (j / 3) (by omega) (j % 3) (by omega)] at this
    rw [show j / 3 * 3 + j % 3 = j by omega, hu] at this
    rw [Addr.add_lit, ← this]
    congr 2
    omega
/-- A block of no cells, as an empty row. -/
theorem Led.empty {T : List Nat} {w0 w : World} {l : List Thing} (h : Led T w0 w l) (e size : Nat) : Led T w0 (w.alloc (.cells #[] e)) (l ++ [rowT e size (.slice (some ⟨w.heap.size, 0, none⟩) 0 0) 0 []]) :=
  h.new (t' := rowT e size (.slice (some ⟨w.heap.size, 0, none⟩) 0 0) 0 []) ⟨rfl, by simp, .inr ⟨w.heap.size, 0, #[], rfl, heap_alloc_new w _, Nat.le_refl _, by simp [maxLen], by simp, by simp⟩⟩ ⟨(Touch.refl [] w).alloc _, fun k hk => .inr (by simp [sb, Value.ownBlock] at hk; omega)⟩
theorem Led.asRow1 {T : List Nat} {w0 w : World} {b : Nat} {u : MT} (h : Led T w0 w [Proofs.Ytihmbgdkllmkaaa.box b 25 #[.int .i64 u.kind, .int .i64 u.num, .slice u.addr u.parts.length u.cap]]) : Led T w0 w [rowT 25 3 (.slice (some ⟨b, 0, none⟩) 1 1) 1 (valCells [u])] := by
  obtain ⟨f, ⟨hf, hb⟩, _, hs⟩ := h.step 0 rfl
  subst hf
  exact hs w (rowT 25 3 (.slice (some ⟨b, 0, none⟩) 1 1) 1 (valCells [u])) [b] ⟨rfl, rfl, .inr ⟨b, 1, _, rfl, hb, Nat.le_refl _, by simp [maxLen], by simp, rfl⟩⟩ (Went.refl _ _)
set_option maxHeartbeats 4000000 in
theorem Size_ref (t : MT) (w : World) (hin : t.In w) (hno : t.nodes ≤ 1048576) : Calls Try.prog 11 #[t.val] w fun e w' => e = .returned (.int .i64 ((min t.nodes 257 : Nat) : Int)) ∧ Touch [] w w' := by
  have HIN := Lib.hid hin
  have HNO := Lib.hid hno
  obtain ⟨i0, hi0, iz0, iz1, iz2⟩ := info_parts info_val
  clear hin hno
  simp only [MT.val, MT.sl]
  go_enter Try.func11, Try.ntmps11
  go_wp2_with fail
  refine wp_name ?_
  intro w1 hw1
  have HL1 := Lib.hid ((Led.nil' w).al2 hw1)
  simp only [List.nil_append, List.cons_append] at HL1
  have HL2 : Hid (Led [] w w1 [rowT 25 3 (.slice (some ⟨w.heap.size + 1, 0, none⟩) 1 1) 1 (valCells [t])]) := (HL1.out.sel [1] rfl (by decide)).asRow1
  clear hw1 HL1
  go_loopw [3, 4] (fun x i wr => ∃ (nn : Nat) (l : List MT) (v : Value), x = v ∧ i = .int .i64 (nn : Int) ∧ nn ≤ 257 ∧ Hid (MT.nodesAll l + nn = t.nodes) ∧ Hid (∀ u ∈ l, u.In wr) ∧ Hid (Led [] w wr [rowT 25 3 v l.length (valCells l)])) (fun _ i _ => 300 - (intOf i).toNat)
  case atStart => exact ⟨0, [t], _, rfl, rfl, by omega, by unfold Hid; simp [MT.nodesAll], by unfold Hid; simpa using HIN.out.touch0 HL2.out.tch, HL2⟩
  case round =>
    obtain ⟨nn, l, v, rfl, rfl, hnn, HS, HI, HK⟩ := hrel
    clear HL2
    obtain ⟨va, vc, rfl, _, _⟩ := rowS_val (HK.out.rowSAt 0 rfl)
    by_cases hl0 : l.length = 0
    · obtain rfl : l = [] := List.eq_nil_of_length_eq_zero hl0
      simp only [List.length_nil]
      go_wp2
      go_ret
      refine ⟨ret_nat ?_, HK.out.tch⟩
      have := HS.out
      simp only [MT.nodesAll] at this
      omega
    · have hl1 : (0 : Int) < (l.length : Int) := by omega
      have hl2 : 0 < l.length := by omega
      by_cases hn2 : nn ≤ 256
      · have hn3 : (nn : Int) ≤ 256 := by omega
        obtain ⟨g, cap, cur, hv, _, hc1, hc2, _, _⟩ := rowS_form (HK.out.rowSAt 0 rfl) hl2
        injection hv with hv1 _ hv3
        subst hv1 hv3
        obtain ⟨p0, p1, p2, _, _, _, zg⟩ := HK.out.rowVals 0 rfl hl2
        match l, hl2 with
        | u :: r, _ =>
        simp only [List.getElem_cons_zero, Nat.zero_mul, Nat.zero_add, MT.sl, List.length_cons] at p0 p1 p2 HK hl1 hc1 ⊢
        go_wp2_with fail
        refine wp_name ?_
        intro w2 hw2
        have HL2 := Lib.hid (HK.out.al1 hw2)
        simp only [List.nil_append, List.cons_append] at HL2
        obtain ⟨b5, hb5⟩ : ∃ b, wr.heap.size = b := ⟨_, rfl⟩
        rw [hb5] at HL2 ⊢
        have hT2 : Hid (Touch [] wr w2) := hw2 ▸ (Touch.refl [] wr).alloc _
        clear hw2 hb5 p0 p1 p2
        obtain ⟨x0, x1, x2, _, _, _, zx, _, _⟩ := HL2.out.c3 1 rfl
        obtain ⟨sa, hsa, hsl⟩ := run_slice_from Try.underlying23 hi0 (some ⟨g, 0, none⟩) (r.length + 1) vc 1 (by omega) (by omega)
        have HSA := Lib.hid hsa
        clear hsa
        simp only [Nat.add_sub_cancel, Int.ofNat_eq_natCast, Int.cast_ofNat_Int] at hsl
        have HLE := Lib.hid (HL2.out.drew.empty 25 3)
        simp only [List.nil_append, List.cons_append] at HLE
        have HRL : Hid (r.length ≤ 1048576 ∧ r.length + u.parts.length ≤ 1048576) := by
          have h1 := HS.out
          have h2 := HNO.out
          have h3 := MT.length_le r
          have h4 := MT.length_le u.parts
          have h5 := MT.nodes_eq u
          simp only [MT.nodesAll] at h1
          exact ⟨by omega, by omega⟩
        have HUI : Hid (∀ W, Touch [] wr W → ∀ x ∈ u :: r, x.In W) := fun W hW x hx => (HI.out x hx).touch0 hW
        have HTE : Hid (Touch [] wr (w2.drew.alloc (.cells #[] 25))) := (hT2.out.drew).alloc _
        go_region_held3 (fun w' => w'.cell? ⟨b5, 2, none⟩ = some (.slice u.addr u.parts.length u.cap)) (go_keep)
          (first
          | (refine step_append_S _ (by rfl) (.tmp 18) (.tmp 20) 23 (by rfl) 25 i0 _ 3 40 Try.underlying23 hi0 iz0 iz1 iz2 rfl (by decide) (.slice (some ⟨w2.heap.size, 0, none⟩) 0 0) 0 [] (by rfl) (HLE.out.rowSAt 2 rfl) sa r.length (vc - 1) (valCells r) (by rfl) (valCells_length r) (rowS_src (lo := 1) (HLE.out.rowSAt 0 rfl) (by rw [iz1]) HSA.out) (vals_one r) (by simp only [maxLen]; have := HRL.out.1; omega) (by have := HRL.out.1; omega) ?_; intro a2 c2 w3 hown hgrow hat; simp only [Nat.zero_add, List.nil_append] at hown hat ⊢; have HL3 := Lib.hid (HLE.out.grownS 2 rfl hgrow hown hat); simp only [List.set_cons_succ, List.set_cons_zero] at HL3; have HT3 : Hid (Touch [] wr w3) := HTE.out.grown hgrow (fun k hk => .inr (by simp [Value.ownBlock] at hk; subst hk; exact hT2.out.size)); have HA2 : Hid (∀ k, (Value.slice a2 r.length c2).ownBlock = some k → k ∈ ([] : List Nat) ∨ wr.heap.size ≤ k) := fun k hk => .inr (by have := hT2.out.size; rcases hat with h | h <;> rw [h] at hk <;> simp [Value.ownBlock] at hk <;> omega); clear hown hgrow hat x0 x1 x2; obtain ⟨x0, x1, x2, _, _, _, zx, _, _⟩ := HL3.out.c3 1 rfl)
          | (refine step_append_S _ (by rfl) (.tmp 21) (.tmp 23) 23 (by rfl) 25 i0 _ 3 40 Try.underlying23 hi0 iz0 iz1 iz2 rfl (by decide) (.slice a2 r.length c2) r.length (valCells r) (by rfl) (HL3.out.rowSAt 2 rfl) u.addr u.parts.length u.cap (valCells u.parts) (by rfl) (valCells_length u.parts) (MT.RowAt.src (HUI.out _ HT3.out u (by simp)).row) (vals_one u.parts) (by simp only [maxLen]; have := HRL.out.2; omega) (by have := HRL.out.2; omega) ?_; intro a4 c4 w4 hown hgrow hat; have HL4 := Lib.hid (HL3.out.grownS 2 rfl hgrow hown hat); simp only [List.set_cons_succ, List.set_cons_zero] at HL4; have HT4 : Hid (Touch [] wr w4) := HT3.out.grown hgrow (fun k hk => HA2.out k hk); clear hown hgrow hat x0 x1 x2; obtain ⟨x0, x1, x2, _, _, _, zx, _, _⟩ := HL4.out.c3 1 rfl))
        clear x0 x1 x2 hsl
        have HL5 : Hid (Led [] w w4 [rowT 25 3 (.slice a4 (r ++ u.parts).length c4) (r ++ u.parts).length (valCells (r ++ u.parts))]) := by
          have h := HL4.out.sel [2] (l' := [_]) rfl (by decide)
          rw [List.length_append, valCells_append]
          exact h
        clear HL4 HL3 HLE HL2
        go_wp2
        go_roundw
        case rel =>
          refine ⟨nn + 1, r ++ u.parts, _, by simp, by go_num, by omega, ?_, ?_, HL5⟩
          · have h1 := HS.out
            have h2 := MT.nodes_eq u
            unfold Hid
            simp only [MT.nodesAll] at h1
            rw [MT.nodesAll_append]
            omega
          · unfold Hid
            intro x hx
            rcases List.mem_append.1 hx with hx | hx
            · exact HUI.out _ HT4.out x (by simp [hx])
            · exact (HUI.out _ HT4.out u (by simp)).part hx
        case measure => simp [intOf]; omega
      · have hn3 : ¬ (nn : Int) ≤ 256 := by omega
        go_wp2
        go_ret
        refine ⟨ret_nat ?_, HK.out.tch⟩
        have := HS.out
        have := MT.length_le l
        omega

theorem val_eq (t : MT) : t.val = .agg #[.int .i64 t.kind, .int .i64 t.num, .slice t.addr t.parts.length t.cap] := rfl
set_option maxHeartbeats 2000000 in
theorem Same_val (t u : MT) (w : World) (ht : t.In w) (hu : u.In w)  : Calls Try.prog 65 #[t.val, u.val] w (Tells (t.nodes ≤ 256 ∧ u.nodes ≤ 256 ∧ t.plain = u.plain) w) := by
  have H1 := Lib.hid (fun W (hW : Touch [] w W) => small_val t W (ht.touch0 hW) )
  have H2 := Lib.hid (fun W (hW : Touch [] w W) => small_val u W (hu.touch0 hW) )
  have H3 := Lib.hid (fun W (hW : Touch [] w W) => equal_val t u W (ht.touch0 hW) (hu.touch0 hW))
  clear ht hu
  have z0 : w.heap.size < w.heap.size + 1 + 1 := by omega
  have z1 : w.heap.size < w.heap.size + 1 := by omega
  simp only [val_eq] at H1 H2 H3 ⊢
  go_enter Try.func65, Try.ntmps65
  go_wp2_with fail
  refine wp_calls_name ?_
  intro w1 hw1
  have HL1 := Lib.hid ((Led.nil' w).al2 hw1)
  simp only [List.nil_append, List.cons_append] at HL1
  refine (H1.out _ HL1.out.tch).mono ?_
  rintro e w2 ⟨rfl, ht⟩
  have HL2 := Lib.hid (HL1.out.touch ht)
  clear ht hw1 HL1
  obtain ⟨b2, hb2⟩ : ∃ b, w.heap.size + 1 = b := ⟨_, rfl⟩
  rw [hb2] at HL2 ⊢
  obtain ⟨b1, hb1⟩ : ∃ b, w.heap.size = b := ⟨_, rfl⟩
  rw [hb1] at HL2 ⊢
  clear hb2 hb1 z0 z1
  obtain ⟨x0, x1, x2, _, _, _, zx, _, _⟩ := HL2.out.c3 0 rfl
  obtain ⟨y0, y1, y2, _, _, _, zy, _, _⟩ := HL2.out.c3 1 rfl
  by_cases ht : t.nodes ≤ 256
  · rw [decide_eq_true ht]
    go_wp2_with fail
    refine (H2.out _ HL2.out.tch).mono ?_
    rintro e w3 ⟨rfl, ht2⟩
    have HL3 := Lib.hid (HL2.out.touch ht2)
    clear ht2 HL2 x0 x1 x2 y0 y1 y2
    obtain ⟨x0, x1, x2, _, _, _, zx, _, _⟩ := HL3.out.c3 0 rfl
    obtain ⟨y0, y1, y2, _, _, _, zy, _, _⟩ := HL3.out.c3 1 rfl
    by_cases hu : u.nodes ≤ 256
    · rw [decide_eq_true hu]
      go_wp2_with fail
      refine (H3.out _ HL3.out.tch).mono ?_
      rintro e w4 ⟨cc, rfl, hcc, ht2⟩
      have HL4 := Lib.hid (HL3.out.touch ht2)
      have HCC := Lib.hid hcc
      clear ht2 HL3 x0 x1 x2 y0 y1 y2 hcc
      go_wp2
      go_ret
      exact ⟨_, rfl, by simp [ht, hu, HCC.out], HL4.out.tch⟩
    · rw [decide_eq_false hu]
      go_wp2
      go_ret
      exact Tells.no (by simp [hu]) HL3.out.tch
  · rw [decide_eq_false ht]
    go_wp2
    go_ret
    exact Tells.no (by simp [ht]) HL2.out.tch
set_option maxHeartbeats 2000000 in
theorem Same_ref (t u : MT) (w : World) (ht : t.In w) (hu : u.In w) (hnt : t.nodes ≤ 1048576) (hnu : u.nodes ≤ 1048576) : Calls Try.prog 63 #[t.val, u.val] w (Tells (t.nodes ≤ 256 ∧ u.nodes ≤ 256 ∧ t.plain = u.plain) w) := by
  have H1 := Lib.hid (fun W (hW : Touch [] w W) => Size_ref t W (ht.touch0 hW) hnt)
  have H2 := Lib.hid (fun W (hW : Touch [] w W) => Size_ref u W (hu.touch0 hW) hnu)
  have H3 := Lib.hid (fun W (hW : Touch [] w W) => same_ref t u W (ht.touch0 hW) (hu.touch0 hW))
  clear ht hu
  have z0 : w.heap.size < w.heap.size + 1 + 1 := by omega
  have z1 : w.heap.size < w.heap.size + 1 := by omega
  simp only [val_eq] at H1 H2 H3 ⊢
  go_enter Try.func63, Try.ntmps63
  go_wp2_with fail
  refine wp_calls_name ?_
  intro w1 hw1
  have HL1 := Lib.hid ((Led.nil' w).al2 hw1)
  simp only [List.nil_append, List.cons_append] at HL1
  refine (H1.out _ HL1.out.tch).mono ?_
  rintro e w2 ⟨rfl, ht⟩
  have HL2 := Lib.hid (HL1.out.touch ht)
  clear ht hw1 HL1
  obtain ⟨b2, hb2⟩ : ∃ b, w.heap.size + 1 = b := ⟨_, rfl⟩
  rw [hb2] at HL2 ⊢
  obtain ⟨b1, hb1⟩ : ∃ b, w.heap.size = b := ⟨_, rfl⟩
  rw [hb1] at HL2 ⊢
  clear hb2 hb1 z0 z1
  obtain ⟨x0, x1, x2, _, _, _, zx, _, _⟩ := HL2.out.c3 0 rfl
  obtain ⟨y0, y1, y2, _, _, _, zy, _, _⟩ := HL2.out.c3 1 rfl
  by_cases ht : t.nodes ≤ 256
  · have hx1 : ((min t.nodes 257 : Nat) : Int) ≤ 256 := by omega
    go_wp2_with fail
    refine (H2.out _ HL2.out.tch).mono ?_
    rintro e w3 ⟨rfl, ht2⟩
    have HL3 := Lib.hid (HL2.out.touch ht2)
    clear ht2 HL2 x0 x1 x2 y0 y1 y2
    obtain ⟨x0, x1, x2, _, _, _, zx, _, _⟩ := HL3.out.c3 0 rfl
    obtain ⟨y0, y1, y2, _, _, _, zy, _, _⟩ := HL3.out.c3 1 rfl
    by_cases hu : u.nodes ≤ 256
    · have hx2 : ((min u.nodes 257 : Nat) : Int) ≤ 256 := by omega
      go_wp2_with fail
      refine (H3.out _ HL3.out.tch).mono ?_
      rintro e w4 ⟨cc, rfl, hcc, ht2⟩
      have HL4 := Lib.hid (HL3.out.touch ht2)
      have HCC := Lib.hid hcc
      clear ht2 HL3 x0 x1 x2 y0 y1 y2 hcc
      go_wp2
      go_ret
      exact ⟨_, rfl, by simp [ht, hu, HCC.out], HL4.out.tch⟩
    · have hx2 : ¬ ((min u.nodes 257 : Nat) : Int) ≤ 256 := by omega
      go_wp2
      go_ret
      exact Tells.no (by simp [hu]) HL3.out.tch
  · have hx1 : ¬ ((min t.nodes 257 : Nat) : Int) ≤ 256 := by omega
    go_wp2
    go_ret
    exact Tells.no (by simp [ht]) HL2.out.tch
set_option maxHeartbeats 2000000 in
theorem valid_val (t : MT) (w : World) (ht : t.In w)  : Calls Try.prog 115 #[t.val] w (Tells t.plain.Ok w) := by
  have H1 := Lib.hid (fun W (hW : Touch [] w W) => small_val t W (ht.touch0 hW) )
  have H3 := Lib.hid (fun W (hW : Touch [] w W) => shapes_val t W (ht.touch0 hW))
  have HN := Lib.hid (MT.plain_nodes t)
  clear ht
  have z1 : w.heap.size < w.heap.size + 1 := by omega
  simp only [val_eq] at H1 H3 ⊢
  go_enter Try.func115, Try.ntmps115
  go_wp2_with fail
  refine wp_calls_name ?_
  intro w1 hw1
  have HL1 := Lib.hid ((Led.nil' w).al1 hw1)
  simp only [List.nil_append, List.cons_append] at HL1
  refine (H1.out _ HL1.out.tch).mono ?_
  rintro e w2 ⟨rfl, ht⟩
  have HL2 := Lib.hid (HL1.out.touch ht)
  clear ht hw1 HL1
  obtain ⟨b1, hb1⟩ : ∃ b, w.heap.size = b := ⟨_, rfl⟩
  rw [hb1] at HL2 ⊢
  clear hb1 z1
  obtain ⟨x0, x1, x2, _, _, _, zx, _, _⟩ := HL2.out.c3 0 rfl
  by_cases ht : t.nodes ≤ 256
  · rw [decide_eq_true ht]
    go_wp2_with fail
    refine (H3.out _ HL2.out.tch).mono ?_
    rintro e w4 ⟨cc, rfl, hcc, ht2⟩
    have HL4 := Lib.hid (HL2.out.touch ht2)
    have HCC := Lib.hid hcc
    clear ht2 HL2 x0 x1 x2 hcc
    go_wp2
    go_ret
    exact ⟨_, rfl, by simp [MT.PT.Ok, HN.out, ht, HCC.out], HL4.out.tch⟩
  · rw [decide_eq_false ht]
    go_wp2
    go_ret
    exact Tells.no (fun h => ht (HN.out ▸ h.1)) HL2.out.tch
set_option maxHeartbeats 2000000 in
theorem Right_ref (t : MT) (w : World) (ht : t.In w) (hnt : t.nodes ≤ 1048576) : Calls Try.prog 59 #[t.val] w (Tells t.plain.Ok w) := by
  have H1 := Lib.hid (fun W (hW : Touch [] w W) => Size_ref t W (ht.touch0 hW) hnt)
  have H3 := Lib.hid (fun W (hW : Touch [] w W) => shapes_ref t W (ht.touch0 hW))
  have HN := Lib.hid (MT.plain_nodes t)
  clear ht
  have z1 : w.heap.size < w.heap.size + 1 := by omega
  simp only [val_eq] at H1 H3 ⊢
  go_enter Try.func59, Try.ntmps59
  go_wp2_with fail
  refine wp_calls_name ?_
  intro w1 hw1
  have HL1 := Lib.hid ((Led.nil' w).al1 hw1)
  simp only [List.nil_append, List.cons_append] at HL1
  refine (H1.out _ HL1.out.tch).mono ?_
  rintro e w2 ⟨rfl, ht⟩
  have HL2 := Lib.hid (HL1.out.touch ht)
  clear ht hw1 HL1
  obtain ⟨b1, hb1⟩ : ∃ b, w.heap.size = b := ⟨_, rfl⟩
  rw [hb1] at HL2 ⊢
  clear hb1 z1
  obtain ⟨x0, x1, x2, _, _, _, zx, _, _⟩ := HL2.out.c3 0 rfl
  by_cases ht : t.nodes ≤ 256
  · have hx1 : ((min t.nodes 257 : Nat) : Int) ≤ 256 := by omega
    go_wp2_with fail
    refine (H3.out _ HL2.out.tch).mono ?_
    rintro e w4 ⟨cc, rfl, hcc, ht2⟩
    have HL4 := Lib.hid (HL2.out.touch ht2)
    have HCC := Lib.hid hcc
    clear ht2 HL2 x0 x1 x2 hcc
    go_wp2
    go_ret
    exact ⟨_, rfl, by simp [MT.PT.Ok, HN.out, ht, HCC.out], HL4.out.tch⟩
  · have hx1 : ¬ ((min t.nodes 257 : Nat) : Int) ≤ 256 := by omega
    go_wp2
    go_ret
    exact Tells.no (fun h => ht (HN.out ▸ h.1)) HL2.out.tch
set_option maxHeartbeats 1000000 in
theorem Check_val (t : MT) (w : World) (ht : t.In w) : Calls Try.prog 100 #[t.val] w fun e w' => (∃ z : Int, e = .returned (.int .i64 z) ∧ (z = 0 ∨ z = 40) ∧ (z = 0 ↔ t.plain.Ok)) ∧ Touch [] w w' := by
  have H1 := Lib.hid (fun W (hW : Touch [] w W) => valid_val t W (ht.touch0 hW))
  clear ht
  have z1 : w.heap.size < w.heap.size + 1 := by omega
  simp only [val_eq] at H1 ⊢
  go_enter Try.func100, Try.ntmps100
  go_wp2_with fail
  refine (H1.out _ ((Touch.refl [] w).alloc _)).mono ?_
  rintro e w2 ⟨cc, rfl, hcc, ht⟩
  have HT := Lib.hid (((Touch.refl [] w).alloc _).trans' ht)
  have HCC := Lib.hid hcc
  clear ht hcc
  cases cc with
  | false =>
    go_wp2
    go_ret
    exact ⟨⟨_, rfl, by simp, by simpa using HCC.out⟩, HT.out⟩
  | true =>
    go_wp2
    go_ret
    exact ⟨⟨_, rfl, by simp, by simpa using HCC.out⟩, HT.out⟩
end Go.Proofs.Ytihmbgdkllmkaaa
