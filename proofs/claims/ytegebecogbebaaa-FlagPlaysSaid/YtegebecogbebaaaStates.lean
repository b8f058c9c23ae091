/-
  Layer 12 (flag.go): the iterator of States: it goes over the acts as far as they follow.
-/
import Derived.Test.YtegebecogbebaaaEffects
import Derived.Test.YtegebecogbebaaaLedRet
import Derived.Laws.EntriesVeiled
namespace Go.Proofs.Ytegebecogbebaaa
open Go.RowKit Go.Shelf
set_option maxRecDepth 100000
set_option linter.unusedVariables false
set_option linter.unusedSimpArgs false
attribute [local go_sem] Oper.semAt_some

section
variable {T : List Nat} {w0 w w' : World} {l l' : List Thing}
theorem Led.reindex (h : Led T w0 w l) (σ : Nat → Nat) (h1 : ∀ i t, l'[i]? = some t → l[σ i]? = some t) (h2 : ∀ i j, i < l'.length → j < l'.length → σ i = σ j → i = j) : Led T w0 w l' := by
  obtain ⟨hb, F, g1, g2⟩ := h
  refine ⟨hb, fun i => F (σ i), fun i t hi => g1 _ t (h1 i t hi), fun i j hi hj hij => ?_⟩
  have e1 := h1 i _ (List.getElem?_eq_getElem hi)
  have e2 := h1 j _ (List.getElem?_eq_getElem hj)
  exact g2 _ _ (List.getElem?_eq_some_iff.1 e1).1 (List.getElem?_eq_some_iff.1 e2).1 (fun e => hij (h2 i j hi hj e))
theorem Led.swapEnd {a b c : List Thing} (h : Led T w0 w (a ++ b ++ c)) : Led T w0 w (a ++ c ++ b) := by
  refine h.reindex (fun i => if i < a.length then i else if i < a.length + c.length then i + b.length else i - c.length) ?_ ?_
  · intro i t hi
    have hl := (List.getElem?_eq_some_iff.1 hi).1
    simp only [List.length_append] at hl
    by_cases h1 : i < a.length
    · rw [if_pos h1]
      rw [List.append_assoc, List.getElem?_append_left h1] at hi
      rw [List.append_assoc, List.getElem?_append_left h1]
      exact hi
    · rw [if_neg h1]
      rw [List.append_assoc, List.getElem?_append_right (by omega)] at hi
      by_cases h2 : i < a.length + c.length
      · rw [if_pos h2]
        rw [List.getElem?_append_left (by omega)] at hi
        rw [List.append_assoc, List.getElem?_append_right (by omega), List.getElem?_append_right (by omega)]
        rw [show i + b.length - a.length - b.length = i - a.length from by omega]
        exact hi
      · rw [if_neg h2]
        rw [List.getElem?_append_right (by omega)] at hi
        rw [List.append_assoc, List.getElem?_append_right (by omega), List.getElem?_append_left (by omega)]
        rw [show i - c.length - a.length = i - a.length - c.length from by omega]
        exact hi
  · intro i j hi hj
    simp only [List.length_append] at hi hj
    repeat' split
    all_goals omega
/-- What a callee has made is taken over. -/
theorem Led.join {m : List Thing} (h : Led T w0 w l) (h' : Led [] w w' m) : Led T w0 w' (l ++ m) := by
  have hz := h.size
  obtain ⟨hb, F, g1, g2⟩ := h
  obtain ⟨hb', F', g1', g2'⟩ := h'
  have hnew : ∀ j, j < m.length → ∀ x ∈ F' j, w.heap.size ≤ x := fun j hj x hx => ((g1' j _ (List.getElem?_eq_getElem hj)).2 x hx).elim (fun h => by simp at h) id
  have hold : ∀ j, j < l.length → ∀ x ∈ F j, x < w.heap.size := fun j hj x hx => l[j].lt (g1 j l[j] (List.getElem?_eq_getElem hj)).1 x hx
  refine ⟨hb.trans hb' (by simp), fun j => if j < l.length then F j else F' (j - l.length), ?_, ?_⟩
  · intro j u hj
    by_cases hjl : j < l.length
    · rw [List.getElem?_append_left hjl] at hj
      simp only [if_pos hjl]
      exact ⟨u.keep (g1 j u hj).1 (fun k hk => hb'.block k (u.lt (g1 j u hj).1 k hk) (by simp)), (g1 j u hj).2⟩
    · rw [List.getElem?_append_right (by omega)] at hj
      simp only [if_neg hjl]
      have hj' := (List.getElem?_eq_some_iff.1 hj).1
      exact ⟨(g1' _ u hj).1, fun k hk => .inr (by have := hnew _ hj' k hk; omega)⟩
  · intro i j hi hj hij x hx hx2
    dsimp only at hx hx2
    simp only [List.length_append] at hi hj
    by_cases h1 : i < l.length
    · rw [if_pos h1] at hx
      by_cases h2 : j < l.length
      · rw [if_pos h2] at hx2; exact g2 i j h1 h2 hij x hx hx2
      · rw [if_neg h2] at hx2
        have := hnew _ (by omega) x hx2
        have := hold i h1 x hx
        omega
    · rw [if_neg h1] at hx
      by_cases h2 : j < l.length
      · rw [if_pos h2] at hx2
        have := hnew _ (by omega) x hx
        have := hold j h2 x hx2
        omega
      · rw [if_neg h2] at hx2
        exact g2' _ _ (by omega) (by omega) (by omega) x hx hx2
end

def factCells (l : List FAct) : List Value := l.flatMap FAct.cells
theorem factCells_length (l : List FAct) : (factCells l).length = l.length * 3 := by
  induction l with
  | nil => rfl
  | cons x l ih =>
    have hx : x.cells.length = 3 := rfl
    simp only [factCells, List.flatMap_cons, List.length_append, List.length_cons] at ih ⊢
    omega
theorem factCells_append (a b : List FAct) : factCells (a ++ b) = factCells a ++ factCells b := by simp [factCells]
theorem factCells_get (l : List FAct) (i : Nat) (hi : i < l.length) (j : Nat) (hj : j < 3) : (factCells l)[i * 3 + j]? = l[i].cells[j]? := by
  induction l generalizing i with
  | nil => simp at hi
  | cons x l ih =>
    simp only [factCells, List.flatMap_cons]
    cases i with
    | zero =>
      rw [List.getElem?_append_left (by simp [FAct.cells]; omega)]
      simp
    | succ i =>
      rw [List.getElem?_append_right (by simp [FAct.cells]; omega)]
      have := ih i (by simpa using hi)
      simp only [List.getElem_cons_succ]
      rw [show (i + 1) * 3 + j - x.cells.length = i * 3 + j from by simp [FAct.cells]; omega]
      exact this
theorem fact_one (l : List FAct) : ∀ u ∈ factCells l, u.oneCell' = true := by
  intro u hu
  simp only [factCells, List.mem_flatMap, FAct.cells] at hu
  obtain ⟨x, _, hx⟩ := hu
  simp at hx
  rcases hx with rfl | rfl | rfl <;> rfl

/-- The state behind k acts. -/
def stAt (L : List FAct) : Nat → Int
  | 0 => 0
  | k + 1 => aftB (L.getD k ⟨0, false, 0⟩).step (stAt L k)
/-- Do k acts follow? -/
def okTo (L : List FAct) (k : Nat) : Prop := ∀ j, j < k → actB (L.getD j ⟨0, false, 0⟩) (stAt L j) = true
theorem stAt_range (L : List FAct) (k : Nat) : 0 ≤ stAt L k ∧ stAt L k ≤ 2 := by
  induction k with
  | zero => simp [stAt]
  | succ k ih => simp only [stAt, aftB]; repeat' split
                 all_goals omega
/-- How many rounds there are. -/
def stFin (L : List FAct) (b : Nat × Option (Nat × Nat × Nat × Nat × Nat)) : Prop := b.1 ≤ L.length ∧ okTo L b.1 ∧ (b.1 < L.length → actB (L.getD b.1 ⟨0, false, 0⟩) (stAt L b.1) = false)
def effL : Option (Nat × Nat × Nat × Nat × Nat) → List Thing
  | none => []
  | some (M, b1, b2, b3, b4) => effT M b1 b2 b3 b4

/-- What is known in a round. -/
theorem st_facts {T : List Nat} {w0 W : World} {a m : List Thing} {M b1 b2 b3 b4 : Nat} (h : Led T w0 W (a ++ effT M b1 b2 b3 b4 ++ m)) :
    W.heap[M]? = some (.map (effEs b1 b2 b3 b4).toArray 5) ∧ Blk W b1 88 #[.int .i64 1] ∧ Blk W b2 88 #[.int .i64 0] ∧ Blk W b3 88 #[.int .i64 2] ∧ Blk W b4 88 #[.int .i64 2] := by
  have hi : ∀ j t, (effT M b1 b2 b3 b4)[j]? = some t → (a ++ effT M b1 b2 b3 b4 ++ m)[a.length + j]? = some t := fun j t hj => by
    rw [List.append_assoc, List.getElem?_append_right (by omega), Nat.add_sub_cancel_left, List.getElem?_append_left (List.getElem?_eq_some_iff.1 hj).1]
    exact hj
  exact ⟨h.ex _ (hi 0 _ rfl), h.box _ (hi 1 _ rfl), h.box _ (hi 2 _ rfl), h.box _ (hi 3 _ rfl), h.box _ (hi 4 _ rfl)⟩

section
variable {T : List Nat} {w0 : World} {D : Nat} {Rc : Nat → List Thing} {J' : Nat × Option (Nat × Nat × Nat × Nat × Nat) → World → Prop}
theorem st_lt {W : World} {a : List Thing} (h : Led T w0 W (a ++ marks1 D)) : D + 1 < W.heap.size := by
  obtain ⟨o', h2⟩ := h.exact_of_some
  exact (Array.getElem?_eq_some_iff.1 (Led.at_mark (m := []) (by simpa using h2)).2).1
theorem st_touch (hJ : ∀ b W, J' b W → Led T w0 W (Rc b.1 ++ effL b.2 ++ marks1 D)) (hC : ∀ b W b' W', J' b W → Led T w0 W' (Rc b'.1 ++ effL b'.2 ++ marks1 D) → Kept D W W' → J' b' W') {b : Nat × Option (Nat × Nat × Nat × Nat × Nat)} {W W' : World} (h : J' b W) (ht : Touch [] W W') : J' b W' :=
  hC b W b W' h ((hJ b W h).touch ht) (ht.kept (st_lt (hJ b W h)) (by simp) (by simp))
end
theorem zero_eff (w : World) : (zeroValue 158).run Try.prog w = .ok (.agg #[.nilFunc, .nilFunc]) w := by kernel_rfl

theorem eff_none (b1 b2 b3 b4 : Nat) (step : Int) (h1 : ¬ step = 1) (h2 : ¬ step = 2) (h3 : ¬ step = 3) (h4 : ¬ step = 4) (h5 : ¬ step = 5) : Instr.findNow (.int .i64) (.int .i64 step) (effEs b1 b2 b3 b4).toArray.toList 0 = some none := by
  have q1 : (step == 1) = false := by simpa using h1
  have q2 : (step == 2) = false := by simpa using h2
  have q3 : (step == 3) = false := by simpa using h3
  have q4 : (step == 4) = false := by simpa using h4
  have q5 : (step == 5) = false := by simpa using h5
  simp only [effEs, Instr.findNow, Instr.sameNow, if_true, q1, q2, q3, q4, q5]
set_option maxHeartbeats 8000000 in
theorem states_iter (n l bl D : Nat) (v : Value) (L : List FAct) (T : List Nat) (w0 : World) (Rc : Nat → List Thing) (ib ir : Nat) (hib : ∀ k, (Rc k)[ib]? = some (box bl 92 #[v])) (hir : ∀ k, (Rc k)[ir]? = some (row 95 3 v L.length (factCells L))) (hLen : L.length ≤ 1000000)
    (J' : Nat × Option (Nat × Nat × Nat × Nat × Nat) → World → Prop) (Jx' : World → Prop) (hJ : ∀ b W, J' b W → Led T w0 W (Rc b.1 ++ effL b.2 ++ marks1 D)) (hC : ∀ b W b' W', J' b W → Led T w0 W' (Rc b'.1 ++ effL b'.2 ++ marks1 D) → Kept D W W' → J' b' W')
    (hY : ∀ (k : Nat) p W, k < L.length → okTo L (k + 1) → J' (k, some p) W → YieldAt Fence.wide (n - 1) Try.prog l #[.int .i64 (k : Int), .int .i64 (stAt L (k + 1))] W (Told (J' (k + 1, some p)) Jx'))
    (W : World) (h0 : J' (0, none) W) :
    CallsIn Fence.wide n Try.prog 91 #[.func (.yield l) #[] #[], .pointer (some ⟨bl, 0, none⟩)] W (IterEnd (stFin L) J' Jx') := by
  have HJ := Lib.hid hJ
  have HC := Lib.hid hC
  have HY := Lib.hid hY
  have HIB := Lib.hid hib
  have HIR := Lib.hid hir
  have H0 := Lib.hid h0
  have HBX : Hid (∀ b W, J' b W → Blk W bl 92 #[v] ∧ W.ownsRow 0 95 3 v L.length (factCells L)) := fun b W hb => by
    have h1 := hJ b W hb
    have e1 := (List.getElem?_eq_some_iff.1 (hib b.1)).1
    have e2 := (List.getElem?_eq_some_iff.1 (hir b.1)).1
    exact ⟨h1.box ib (by rw [List.append_assoc, List.getElem?_append_left e1]; exact hib b.1), h1.row ir (by rw [List.append_assoc, List.getElem?_append_left e2]; exact hir b.1)⟩
  clear hJ hC hY hib hir h0
  refine callsIn_of_wp Try.func91 rfl trivial ?_ rfl
  simp only [Try.ntmps91, List.size_toArray, List.length_cons, List.length_nil, Nat.reduceAdd, Nat.reduceSub, Array.replicate_succ, Array.replicate_zero, List.push_toArray, List.append_toArray, List.nil_append, List.cons_append]
  gi_wp2_with fail
  refine ⟨trivial, nodepth, ?_⟩
  refine (callsIn_wide.2 (effects_any _)).mono ?_
  rintro e W1 ⟨M, b1, b2, b3, b4, rfl, hE⟩
  have HJ1 : Hid (J' (0, some (M, b1, b2, b3, b4)) W1) := by
    have h1 := HJ.out _ _ H0.out
    have h2 := h1.join hE
    simp only [effL, List.append_nil] at h2
    exact HC.out _ _ _ _ H0.out h2.swapEnd (hE.tch.kept (st_lt h1) (by simp) (by simp))
  obtain ⟨vb, vr⟩ := HBX.out _ _ HJ1.out
  obtain ⟨va, vcap, rfl, _, _⟩ := own_val vr
  have q1 := vb.cell 0
  simp at q1
  clear hE H0 vb vr
  gi_wp2
  gi_loopw [4, 13] (fun st i wr => ∃ k : Nat, i = .int .i64 (k : Int) ∧ st = .int .i64 (stAt L k) ∧ Hid (J' (k, some (M, b1, b2, b3, b4)) wr) ∧ k ≤ L.length ∧ Hid (okTo L k)) (fun _ i _ => L.length - (intOf i).toNat)
  case atStart => exact ⟨0, rfl, rfl, HJ1, Nat.zero_le _, fun j hj => by omega⟩
  case round =>
    obtain ⟨k, rfl, rfl, HJ', hk, HK⟩ := hrel
    by_cases hlt : k < L.length
    · have hlt' : (k : Int) < (L.length : Int) := by omega
      obtain ⟨ga, cap, cur, hva, _, _, _, _, _⟩ := own_form (HBX.out _ _ HJ'.out).2 (by omega)
      injection hva with hva1 hva2 hva3
      subst hva1
      have hrow := (HBX.out _ _ HJ'.out).2
      have hln := factCells_length L
      obtain ⟨x, hx⟩ : ∃ x, L[k] = x := ⟨_, rfl⟩
      have hcs : ∀ j, j < 3 → wr.cell? ⟨ga, k * 3 + j, none⟩ = x.cells[j]? := fun j hj => by
        rw [own_cell hrow (k * 3 + j) (by omega), ← List.getElem?_eq_getElem, factCells_get L k hlt j hj, hx]
      have HX : Hid (L.getD k ⟨0, false, 0⟩ = x) := by simp [Hid, List.getD, hlt, hx]
      obtain ⟨hm0, hb1, hb2, hb3, hb4⟩ := st_facts (HJ.out _ _ HJ'.out)
      have hMl : M < wr.heap.size := (Array.getElem?_eq_some_iff.1 hm0).1
      have HM : Hid (∀ W2, Touch [] wr W2 → W2.heap[M]? = some (.map (effEs b1 b2 b3 b4).toArray 5)) := fun W2 ht => (ht.block M hMl (by simp)).trans hm0
      have hgl : ga < wr.heap.size := own_lt hrow ga (by simp [sb, Value.ownBlock])
      obtain ⟨step, owner, was⟩ := x
      have e0 := hcs 0 (by omega)
      have e1 := hcs 1 (by omega)
      have e2 := hcs 2 (by omega)
      simp only [FAct.cells, List.getElem?_cons_succ, List.getElem?_cons_zero, Nat.add_zero] at e0 e1 e2
      clear hcs hx hva2 hva3 hrow hln hm0 hb1 hb2 hb3 hb4 hMl
      by_cases h1 : step = 1
      · subst h1
        have hlk := run_lookup_has (P := Try.prog) (k := .i64) (w := (wr.alloc (.cells #[.int .i64 1, .bool owner, .int .i64 was] 95)).alloc (.cells #[.int .i64 1, .bool owner, .int .i64 was, .int .i64 (stAt L k)] 154)) Try.underlying151 Try.underlying93 (HM.out _ (((Touch.refl [] wr).alloc _).alloc _)) 1 rfl
        by_cases hw : was = stAt L k
        · subst hw
          have gm := enters_of Try.func98 (by kernel_rfl) rfl
          have ga' := enters_of Try.func95 (by kernel_rfl) rfl
          have HMB : Hid (actB (L.getD k ⟨0, false, 0⟩) (stAt L k) = (owner && (stAt L k != 1))) := by rw [HX.out]; simp [Hid, actB, mayB]
          have HST : Hid (stAt L (k + 1) = (if stAt L k = 0 then 1 else stAt L k)) := by simp only [Hid, stAt]; rw [HX.out]; simp [aftB]
          gi_wp2_with fail
          refine ⟨trivial, nodepth, ?_⟩
          refine (callsIn_wide.2 (may98 _ _ _ owner _)).mono ?_
          rintro e w3 ⟨rfl, ht⟩
          have hB8 := (Blk.new ((wr.alloc (.cells #[.int .i64 1, .bool owner, .int .i64 (stAt L k)] 95)).alloc (.cells #[.int .i64 1, .bool owner, .int .i64 (stAt L k), .int .i64 (stAt L k)] 154)) 158 #[.func (.func 98) #[] #[], .func (.func 95) #[] #[.pointer (some ⟨b1, 0, none⟩)]]).touch ht (by simp)
          have HT3 : Hid (Touch [] wr w3) := ((((Touch.refl [] wr).alloc _).alloc _).alloc _).trans' ht
          have HJ3 := Lib.hid (st_touch HJ.out HC.out HJ'.out HT3.out)
          obtain ⟨_, hk1, hk2, hk3, hk4⟩ := st_facts (HJ.out _ _ HJ3.out)
          have hc1 := hk1.cell 0
          have hc2 := hk2.cell 0
          have hc3 := hk3.cell 0
          have hc4 := hk4.cell 0
          have hc8 := hB8.cell 1
          simp at hc1 hc2 hc3 hc4 hc8
          clear ht hB8 hk1 hk2 hk3 hk4 hlk
          cases hmb : (owner && (stAt L k != 1)) with
          | false =>
            have HN : Hid (actB (L.getD k ⟨0, false, 0⟩) (stAt L k) = false) := by rw [HMB.out, hmb]; rfl
            clear hmb
            gi_wp2
            refine bodyPost_ret (results_none rfl _ _ _) rfl ?_
            exact ⟨⟨_, rfl⟩, .inl ⟨_, ⟨hk, HK.out, fun _ => HN.out⟩, HJ3.out⟩⟩
          | true =>
            have HOK : Hid (okTo L (k + 1)) := fun j hj => by
              by_cases e : j = k
              · subst e; rw [HMB.out, hmb]
              · exact HK.out j (by omega)
            clear hmb
            gi_wp2_with fail
            refine ⟨trivial, nodepth, ?_⟩
            refine (callsIn_wide.2 (aft95 _ 1 b1 _ hc1)).mono ?_
            rintro e w' ⟨rfl, rfl⟩
            rw [← HST.out]
            obtain ⟨fn, tmps, assign, body, hy, hR⟩ := HY.out k _ w3 hlt HOK.out HJ3.out
            have HR := Lib.hid hR
            clear hR hc1 hc2 hc3 hc4 hc8
            gi_wp2_with fail
            refine ⟨nodepth, HR.out.mono ?_⟩
            rintro e W2 (⟨rfl, hj2⟩ | ⟨rfl, hj2⟩)
            · have HJ2 := Lib.hid hj2
              clear hj2 hy
              gi_wp2
              go_roundw
              case rel => exact ⟨k + 1, by go_num, rfl, HJ2, hlt, HOK⟩
              case measure => simp [intOf]; omega
            · have HJ2 := Lib.hid hj2
              clear hj2 hy
              gi_wp2
              refine bodyPost_ret (results_none rfl _ _ _) rfl ?_
              exact ⟨⟨_, rfl⟩, .inr HJ2.out⟩
        · have hw' : (was != stAt L k) = true := by simpa using hw
          have HN : Hid (actB (L.getD k ⟨0, false, 0⟩) (stAt L k) = false) := by rw [HX.out]; simp [Hid, actB, hw]
          gi_wp2_with fail
          refine ⟨fun _ h => (by cases h), ?_⟩
          gi_wp2
          refine bodyPost_ret (results_none rfl _ _ _) rfl ?_
          exact ⟨⟨_, rfl⟩, .inl ⟨_, ⟨hk, HK.out, fun _ => HN.out⟩, st_touch HJ.out HC.out HJ'.out ((((Touch.refl [] wr).alloc _).alloc _).alloc _)⟩⟩
      by_cases h2 : step = 2
      · subst h2
        have hlk := run_lookup_has (P := Try.prog) (k := .i64) (w := (wr.alloc (.cells #[.int .i64 2, .bool owner, .int .i64 was] 95)).alloc (.cells #[.int .i64 2, .bool owner, .int .i64 was, .int .i64 (stAt L k)] 154)) Try.underlying151 Try.underlying93 (HM.out _ (((Touch.refl [] wr).alloc _).alloc _)) 2 rfl
        by_cases hw : was = stAt L k
        · subst hw
          have gm := enters_of Try.func99 (by kernel_rfl) rfl
          have ga' := enters_of Try.func97 (by kernel_rfl) rfl
          have HMB : Hid (actB (L.getD k ⟨0, false, 0⟩) (stAt L k) = (owner && (stAt L k == 1))) := by rw [HX.out]; simp [Hid, actB, mayB]
          have HST : Hid (stAt L (k + 1) = 0) := by simp only [Hid, stAt]; rw [HX.out]; simp [aftB]
          gi_wp2_with fail
          refine ⟨trivial, nodepth, ?_⟩
          refine (callsIn_wide.2 (may99 _ _ _ owner _)).mono ?_
          rintro e w3 ⟨rfl, ht⟩
          have hB8 := (Blk.new ((wr.alloc (.cells #[.int .i64 2, .bool owner, .int .i64 (stAt L k)] 95)).alloc (.cells #[.int .i64 2, .bool owner, .int .i64 (stAt L k), .int .i64 (stAt L k)] 154)) 158 #[.func (.func 99) #[] #[], .func (.func 97) #[] #[.pointer (some ⟨b2, 0, none⟩)]]).touch ht (by simp)
          have HT3 : Hid (Touch [] wr w3) := ((((Touch.refl [] wr).alloc _).alloc _).alloc _).trans' ht
          have HJ3 := Lib.hid (st_touch HJ.out HC.out HJ'.out HT3.out)
          obtain ⟨_, hk1, hk2, hk3, hk4⟩ := st_facts (HJ.out _ _ HJ3.out)
          have hc1 := hk1.cell 0
          have hc2 := hk2.cell 0
          have hc3 := hk3.cell 0
          have hc4 := hk4.cell 0
          have hc8 := hB8.cell 1
          simp at hc1 hc2 hc3 hc4 hc8
          clear ht hB8 hk1 hk2 hk3 hk4 hlk
          cases hmb : (owner && (stAt L k == 1)) with
          | false =>
            have HN : Hid (actB (L.getD k ⟨0, false, 0⟩) (stAt L k) = false) := by rw [HMB.out, hmb]; rfl
            clear hmb
            gi_wp2
            refine bodyPost_ret (results_none rfl _ _ _) rfl ?_
            exact ⟨⟨_, rfl⟩, .inl ⟨_, ⟨hk, HK.out, fun _ => HN.out⟩, HJ3.out⟩⟩
          | true =>
            have HOK : Hid (okTo L (k + 1)) := fun j hj => by
              by_cases e : j = k
              · subst e; rw [HMB.out, hmb]
              · exact HK.out j (by omega)
            clear hmb
            gi_wp2_with fail
            refine ⟨trivial, nodepth, ?_⟩
            refine (callsIn_wide.2 (aft97 _ 0 b2 _ hc2)).mono ?_
            rintro e w' ⟨rfl, rfl⟩
            rw [← HST.out]
            obtain ⟨fn, tmps, assign, body, hy, hR⟩ := HY.out k _ w3 hlt HOK.out HJ3.out
            have HR := Lib.hid hR
            clear hR hc1 hc2 hc3 hc4 hc8
            gi_wp2_with fail
            refine ⟨nodepth, HR.out.mono ?_⟩
            rintro e W2 (⟨rfl, hj2⟩ | ⟨rfl, hj2⟩)
            · have HJ2 := Lib.hid hj2
              clear hj2 hy
              gi_wp2
              go_roundw
              case rel => exact ⟨k + 1, by go_num, rfl, HJ2, hlt, HOK⟩
              case measure => simp [intOf]; omega
            · have HJ2 := Lib.hid hj2
              clear hj2 hy
              gi_wp2
              refine bodyPost_ret (results_none rfl _ _ _) rfl ?_
              exact ⟨⟨_, rfl⟩, .inr HJ2.out⟩
        · have hw' : (was != stAt L k) = true := by simpa using hw
          have HN : Hid (actB (L.getD k ⟨0, false, 0⟩) (stAt L k) = false) := by rw [HX.out]; simp [Hid, actB, hw]
          gi_wp2_with fail
          refine ⟨fun _ h => (by cases h), ?_⟩
          gi_wp2
          refine bodyPost_ret (results_none rfl _ _ _) rfl ?_
          exact ⟨⟨_, rfl⟩, .inl ⟨_, ⟨hk, HK.out, fun _ => HN.out⟩, st_touch HJ.out HC.out HJ'.out ((((Touch.refl [] wr).alloc _).alloc _).alloc _)⟩⟩
      by_cases h3 : step = 3
      · subst h3
        have hlk := run_lookup_has (P := Try.prog) (k := .i64) (w := (wr.alloc (.cells #[.int .i64 3, .bool owner, .int .i64 was] 95)).alloc (.cells #[.int .i64 3, .bool owner, .int .i64 was, .int .i64 (stAt L k)] 154)) Try.underlying151 Try.underlying93 (HM.out _ (((Touch.refl [] wr).alloc _).alloc _)) 3 rfl
        by_cases hw : was = stAt L k
        · subst hw
          have gm := enters_of Try.func100 (by kernel_rfl) rfl
          have ga' := enters_of Try.func95 (by kernel_rfl) rfl
          have HMB : Hid (actB (L.getD k ⟨0, false, 0⟩) (stAt L k) = (!owner || (stAt L k != 1))) := by rw [HX.out]; simp [Hid, actB, mayB]
          have HST : Hid (stAt L (k + 1) = (if stAt L k = 0 then 2 else stAt L k)) := by simp only [Hid, stAt]; rw [HX.out]; simp [aftB]
          gi_wp2_with fail
          refine ⟨trivial, nodepth, ?_⟩
          refine (callsIn_wide.2 (may100 _ _ _ owner _)).mono ?_
          rintro e w3 ⟨rfl, ht⟩
          have hB8 := (Blk.new ((wr.alloc (.cells #[.int .i64 3, .bool owner, .int .i64 (stAt L k)] 95)).alloc (.cells #[.int .i64 3, .bool owner, .int .i64 (stAt L k), .int .i64 (stAt L k)] 154)) 158 #[.func (.func 100) #[] #[], .func (.func 95) #[] #[.pointer (some ⟨b3, 0, none⟩)]]).touch ht (by simp)
          have HT3 : Hid (Touch [] wr w3) := ((((Touch.refl [] wr).alloc _).alloc _).alloc _).trans' ht
          have HJ3 := Lib.hid (st_touch HJ.out HC.out HJ'.out HT3.out)
          obtain ⟨_, hk1, hk2, hk3, hk4⟩ := st_facts (HJ.out _ _ HJ3.out)
          have hc1 := hk1.cell 0
          have hc2 := hk2.cell 0
          have hc3 := hk3.cell 0
          have hc4 := hk4.cell 0
          have hc8 := hB8.cell 1
          simp at hc1 hc2 hc3 hc4 hc8
          clear ht hB8 hk1 hk2 hk3 hk4 hlk
          cases hmb : (!owner || (stAt L k != 1)) with
          | false =>
            have HN : Hid (actB (L.getD k ⟨0, false, 0⟩) (stAt L k) = false) := by rw [HMB.out, hmb]; rfl
            clear hmb
            gi_wp2
            refine bodyPost_ret (results_none rfl _ _ _) rfl ?_
            exact ⟨⟨_, rfl⟩, .inl ⟨_, ⟨hk, HK.out, fun _ => HN.out⟩, HJ3.out⟩⟩
          | true =>
            have HOK : Hid (okTo L (k + 1)) := fun j hj => by
              by_cases e : j = k
              · subst e; rw [HMB.out, hmb]
              · exact HK.out j (by omega)
            clear hmb
            gi_wp2_with fail
            refine ⟨trivial, nodepth, ?_⟩
            refine (callsIn_wide.2 (aft95 _ 2 b3 _ hc3)).mono ?_
            rintro e w' ⟨rfl, rfl⟩
            rw [← HST.out]
            obtain ⟨fn, tmps, assign, body, hy, hR⟩ := HY.out k _ w3 hlt HOK.out HJ3.out
            have HR := Lib.hid hR
            clear hR hc1 hc2 hc3 hc4 hc8
            gi_wp2_with fail
            refine ⟨nodepth, HR.out.mono ?_⟩
            rintro e W2 (⟨rfl, hj2⟩ | ⟨rfl, hj2⟩)
            · have HJ2 := Lib.hid hj2
              clear hj2 hy
              gi_wp2
              go_roundw
              case rel => exact ⟨k + 1, by go_num, rfl, HJ2, hlt, HOK⟩
              case measure => simp [intOf]; omega
            · have HJ2 := Lib.hid hj2
              clear hj2 hy
              gi_wp2
              refine bodyPost_ret (results_none rfl _ _ _) rfl ?_
              exact ⟨⟨_, rfl⟩, .inr HJ2.out⟩
        · have hw' : (was != stAt L k) = true := by simpa using hw
          have HN : Hid (actB (L.getD k ⟨0, false, 0⟩) (stAt L k) = false) := by rw [HX.out]; simp [Hid, actB, hw]
          gi_wp2_with fail
          refine ⟨fun _ h => (by cases h), ?_⟩
          gi_wp2
          refine bodyPost_ret (results_none rfl _ _ _) rfl ?_
          exact ⟨⟨_, rfl⟩, .inl ⟨_, ⟨hk, HK.out, fun _ => HN.out⟩, st_touch HJ.out HC.out HJ'.out ((((Touch.refl [] wr).alloc _).alloc _).alloc _)⟩⟩
      by_cases h4 : step = 4
      · subst h4
        have hlk := run_lookup_has (P := Try.prog) (k := .i64) (w := (wr.alloc (.cells #[.int .i64 4, .bool owner, .int .i64 was] 95)).alloc (.cells #[.int .i64 4, .bool owner, .int .i64 was, .int .i64 (stAt L k)] 154)) Try.underlying151 Try.underlying93 (HM.out _ (((Touch.refl [] wr).alloc _).alloc _)) 4 rfl
        by_cases hw : was = stAt L k
        · subst hw
          have gm := enters_of Try.func99 (by kernel_rfl) rfl
          have ga' := enters_of Try.func97 (by kernel_rfl) rfl
          have HMB : Hid (actB (L.getD k ⟨0, false, 0⟩) (stAt L k) = (owner && (stAt L k == 1))) := by rw [HX.out]; simp [Hid, actB, mayB]
          have HST : Hid (stAt L (k + 1) = 2) := by simp only [Hid, stAt]; rw [HX.out]; simp [aftB]
          gi_wp2_with fail
          refine ⟨trivial, nodepth, ?_⟩
          refine (callsIn_wide.2 (may99 _ _ _ owner _)).mono ?_
          rintro e w3 ⟨rfl, ht⟩
          have hB8 := (Blk.new ((wr.alloc (.cells #[.int .i64 4, .bool owner, .int .i64 (stAt L k)] 95)).alloc (.cells #[.int .i64 4, .bool owner, .int .i64 (stAt L k), .int .i64 (stAt L k)] 154)) 158 #[.func (.func 99) #[] #[], .func (.func 97) #[] #[.pointer (some ⟨b4, 0, none⟩)]]).touch ht (by simp)
          have HT3 : Hid (Touch [] wr w3) := ((((Touch.refl [] wr).alloc _).alloc _).alloc _).trans' ht
          have HJ3 := Lib.hid (st_touch HJ.out HC.out HJ'.out HT3.out)
          obtain ⟨_, hk1, hk2, hk3, hk4⟩ := st_facts (HJ.out _ _ HJ3.out)
          have hc1 := hk1.cell 0
          have hc2 := hk2.cell 0
          have hc3 := hk3.cell 0
          have hc4 := hk4.cell 0
          have hc8 := hB8.cell 1
          simp at hc1 hc2 hc3 hc4 hc8
          clear ht hB8 hk1 hk2 hk3 hk4 hlk
          cases hmb : (owner && (stAt L k == 1)) with
          | false =>
            have HN : Hid (actB (L.getD k ⟨0, false, 0⟩) (stAt L k) = false) := by rw [HMB.out, hmb]; rfl
            clear hmb
            gi_wp2
            refine bodyPost_ret (results_none rfl _ _ _) rfl ?_
            exact ⟨⟨_, rfl⟩, .inl ⟨_, ⟨hk, HK.out, fun _ => HN.out⟩, HJ3.out⟩⟩
          | true =>
            have HOK : Hid (okTo L (k + 1)) := fun j hj => by
              by_cases e : j = k
              · subst e; rw [HMB.out, hmb]
              · exact HK.out j (by omega)
            clear hmb
            gi_wp2_with fail
            refine ⟨trivial, nodepth, ?_⟩
            refine (callsIn_wide.2 (aft97 _ 2 b4 _ hc4)).mono ?_
            rintro e w' ⟨rfl, rfl⟩
            rw [← HST.out]
            obtain ⟨fn, tmps, assign, body, hy, hR⟩ := HY.out k _ w3 hlt HOK.out HJ3.out
            have HR := Lib.hid hR
            clear hR hc1 hc2 hc3 hc4 hc8
            gi_wp2_with fail
            refine ⟨nodepth, HR.out.mono ?_⟩
            rintro e W2 (⟨rfl, hj2⟩ | ⟨rfl, hj2⟩)
            · have HJ2 := Lib.hid hj2
              clear hj2 hy
              gi_wp2
              go_roundw
              case rel => exact ⟨k + 1, by go_num, rfl, HJ2, hlt, HOK⟩
              case measure => simp [intOf]; omega
            · have HJ2 := Lib.hid hj2
              clear hj2 hy
              gi_wp2
              refine bodyPost_ret (results_none rfl _ _ _) rfl ?_
              exact ⟨⟨_, rfl⟩, .inr HJ2.out⟩
        · have hw' : (was != stAt L k) = true := by simpa using hw
          have HN : Hid (actB (L.getD k ⟨0, false, 0⟩) (stAt L k) = false) := by rw [HX.out]; simp [Hid, actB, hw]
          gi_wp2_with fail
          refine ⟨fun _ h => (by cases h), ?_⟩
          gi_wp2
          refine bodyPost_ret (results_none rfl _ _ _) rfl ?_
          exact ⟨⟨_, rfl⟩, .inl ⟨_, ⟨hk, HK.out, fun _ => HN.out⟩, st_touch HJ.out HC.out HJ'.out ((((Touch.refl [] wr).alloc _).alloc _).alloc _)⟩⟩
      by_cases h5 : step = 5
      · subst h5
        have hlk := run_lookup_has (P := Try.prog) (k := .i64) (w := (wr.alloc (.cells #[.int .i64 5, .bool owner, .int .i64 was] 95)).alloc (.cells #[.int .i64 5, .bool owner, .int .i64 was, .int .i64 (stAt L k)] 154)) Try.underlying151 Try.underlying93 (HM.out _ (((Touch.refl [] wr).alloc _).alloc _)) 5 rfl
        by_cases hw : was = stAt L k
        · subst hw
          have gm := enters_of Try.func100 (by kernel_rfl) rfl
          have ga' := enters_of Try.func101 (by kernel_rfl) rfl
          have HMB : Hid (actB (L.getD k ⟨0, false, 0⟩) (stAt L k) = (!owner || (stAt L k != 1))) := by rw [HX.out]; simp [Hid, actB, mayB]
          have HST : Hid (stAt L (k + 1) = stAt L k) := by simp only [Hid, stAt]; rw [HX.out]; simp [aftB]
          gi_wp2_with fail
          refine ⟨trivial, nodepth, ?_⟩
          refine (callsIn_wide.2 (may100 _ _ _ owner _)).mono ?_
          rintro e w3 ⟨rfl, ht⟩
          have hB8 := (Blk.new ((wr.alloc (.cells #[.int .i64 5, .bool owner, .int .i64 (stAt L k)] 95)).alloc (.cells #[.int .i64 5, .bool owner, .int .i64 (stAt L k), .int .i64 (stAt L k)] 154)) 158 #[.func (.func 100) #[] #[], .func (.func 101) #[] #[]]).touch ht (by simp)
          have HT3 : Hid (Touch [] wr w3) := ((((Touch.refl [] wr).alloc _).alloc _).alloc _).trans' ht
          have HJ3 := Lib.hid (st_touch HJ.out HC.out HJ'.out HT3.out)
          obtain ⟨_, hk1, hk2, hk3, hk4⟩ := st_facts (HJ.out _ _ HJ3.out)
          have hc1 := hk1.cell 0
          have hc2 := hk2.cell 0
          have hc3 := hk3.cell 0
          have hc4 := hk4.cell 0
          have hc8 := hB8.cell 1
          simp at hc1 hc2 hc3 hc4 hc8
          clear ht hB8 hk1 hk2 hk3 hk4 hlk
          cases hmb : (!owner || (stAt L k != 1)) with
          | false =>
            have HN : Hid (actB (L.getD k ⟨0, false, 0⟩) (stAt L k) = false) := by rw [HMB.out, hmb]; rfl
            clear hmb
            gi_wp2
            refine bodyPost_ret (results_none rfl _ _ _) rfl ?_
            exact ⟨⟨_, rfl⟩, .inl ⟨_, ⟨hk, HK.out, fun _ => HN.out⟩, HJ3.out⟩⟩
          | true =>
            have HOK : Hid (okTo L (k + 1)) := fun j hj => by
              by_cases e : j = k
              · subst e; rw [HMB.out, hmb]
              · exact HK.out j (by omega)
            clear hmb
            gi_wp2_with fail
            refine ⟨trivial, nodepth, ?_⟩
            refine (callsIn_wide.2 (aft101 _ _)).mono ?_
            rintro e w' ⟨rfl, rfl⟩
            rw [← HST.out]
            obtain ⟨fn, tmps, assign, body, hy, hR⟩ := HY.out k _ w3 hlt HOK.out HJ3.out
            have HR := Lib.hid hR
            clear hR hc1 hc2 hc3 hc4 hc8
            gi_wp2_with fail
            refine ⟨nodepth, HR.out.mono ?_⟩
            rintro e W2 (⟨rfl, hj2⟩ | ⟨rfl, hj2⟩)
            · have HJ2 := Lib.hid hj2
              clear hj2 hy
              gi_wp2
              go_roundw
              case rel => exact ⟨k + 1, by go_num, rfl, HJ2, hlt, HOK⟩
              case measure => simp [intOf]; omega
            · have HJ2 := Lib.hid hj2
              clear hj2 hy
              gi_wp2
              refine bodyPost_ret (results_none rfl _ _ _) rfl ?_
              exact ⟨⟨_, rfl⟩, .inr HJ2.out⟩
        · have hw' : (was != stAt L k) = true := by simpa using hw
          have HN : Hid (actB (L.getD k ⟨0, false, 0⟩) (stAt L k) = false) := by rw [HX.out]; simp [Hid, actB, hw]
          gi_wp2_with fail
          refine ⟨fun _ h => (by cases h), ?_⟩
          gi_wp2
          refine bodyPost_ret (results_none rfl _ _ _) rfl ?_
          exact ⟨⟨_, rfl⟩, .inl ⟨_, ⟨hk, HK.out, fun _ => HN.out⟩, st_touch HJ.out HC.out HJ'.out ((((Touch.refl [] wr).alloc _).alloc _).alloc _)⟩⟩
      have hlk := run_lookup_not (P := Try.prog) (k := .i64) (w := (wr.alloc (.cells #[.int .i64 step, .bool owner, .int .i64 was] 95)).alloc (.cells #[.int .i64 step, .bool owner, .int .i64 was, .int .i64 (stAt L k)] 154)) Try.underlying151 Try.underlying93 (HM.out _ (((Touch.refl [] wr).alloc _).alloc _)) step
        (eff_none b1 b2 b3 b4 step h1 h2 h3 h4 h5) (zero_eff _)
      have HN : Hid (actB (L.getD k ⟨0, false, 0⟩) (stAt L k) = false) := by rw [HX.out]; simp only [actB]; rw [decide_eq_false (by omega)]; rfl
      clear h1 h2 h3 h4 h5
      gi_wp2_with fail
      refine ⟨fun _ h => (by cases h), ?_⟩
      gi_wp2
      refine bodyPost_ret (results_none rfl _ _ _) rfl ?_
      exact ⟨⟨_, rfl⟩, .inl ⟨_, ⟨hk, HK.out, fun _ => HN.out⟩, st_touch HJ.out HC.out HJ'.out ((((Touch.refl [] wr).alloc _).alloc _).alloc _)⟩⟩
    · obtain rfl : k = L.length := by omega
      have hlt' : ¬ ((L.length : Nat) : Int) < (L.length : Int) := by omega
      gi_wp2
      go_end0
      exact ⟨⟨_, rfl⟩, .inl ⟨_, ⟨Nat.le_refl _, HK.out, fun h => absurd h hlt⟩, HJ'.out⟩⟩
end Go.Proofs.Ytegebecogbebaaa
