/-
  Layer 12 (flag.go): States, a loop over it, Follows.
-/
import Derived.Test.YtegebecogbebaaaStates
import Derived.Test.YtegebecogbebaaaScopeIn
namespace Go.Proofs.Ytegebecogbebaaa
open Go.RowKit Go.Shelf
set_option maxRecDepth 100000
set_option linter.unusedVariables false
set_option linter.unusedSimpArgs false
attribute [local go_sem] Oper.semAt_some

theorem info_flagact : (Try.prog.info? 95).map (fun i => (i.zero, i.size, i.bytes)) = some (some (.agg #[.int .i64 0, .bool false, .int .i64 0]), 3, 24) := by kernel_rfl
set_option maxHeartbeats 1000000 in
theorem cloneFact (w : World) (v : Value) (l : List FAct) (h : w.ownsRow 0 95 3 v l.length (factCells l)) (hl : l.length ≤ 1048576) :
    Calls Try.prog 90 #[v] w (Cloned w 95 3 l.length (factCells l)) := by
  obtain ⟨j0, hj, jz0, jz1, jz2⟩ := info_parts info_flagact
  have HA := Lib.hid h
  have hnil := fun (w : World) (a : Option Addr) (n c : Nat) => Lib.run_eql_slice_nil (P := Try.prog) w 92 95 a n c 0 0 Try.underlying92
  rcases h.2 with ⟨rfl, h0⟩ | ⟨g, cap, cur, rfl, _⟩
  · have HN : Hid (Cloned w 95 3 l.length (factCells l) (.returned (.slice none 0 0)) w) := by
      have h := HA.out
      rw [h0] at h ⊢
      exact ⟨none, 0, rfl, h, Touch.refl _ _, by simp [sb, Value.ownBlock]⟩
    clear h
    go_enter Try.func90, Try.ntmps90
    go_wp2
    go_ret
    exact HN.out
  · clear h
    have HE := Lib.hid (own_empty w 95 3)
    go_enter Try.func90, Try.ntmps90
    go_wp2_with (at_builtin; go_must (refine wpList_append_src _ rfl (.tmp 5) (.tmp 6) 92 rfl 95 j0 _ 3 24 Try.underlying92 hj jz0 jz1 jz2 rfl (by decide) (.slice (some ⟨w.heap.size, 0, none⟩) 0 0) 0 [] rfl HE.out (.slice (some ⟨g, 0, none⟩) l.length cap) l.length (factCells l) rfl (HA.out.alloc _) (fact_one _) (by simp only [maxLen]; omega) (by omega) ?_); intro a1 c1 w1 hown hgrow hat; simp only [Nat.zero_add, List.nil_append] at hown hat ⊢; have H1 := Lib.hid (cloned_close hown hgrow hat); clear hown hgrow hat)
    go_ret
    exact H1.out

/-- What States makes. -/
theorem States_any (w : World) (v : Value) (L : List FAct) (h : w.ownsRow 0 95 3 v L.length (factCells L)) (hl : L.length ≤ 1000000) :
    Calls Try.prog 80 #[v] w fun e w' => ∃ bl v', e = .returned (.func (.func 91) #[] #[.pointer (some ⟨bl, 0, none⟩)]) ∧ Led [] w w' [row 95 3 v' L.length (factCells L), box bl 92 #[v']] := by
  have H := Lib.hid (cloneFact w v L h (by omega))
  obtain ⟨va, vc, rfl, _, _⟩ := own_val h
  clear h
  go_enter Try.func80, Try.ntmps80
  go_wp2_with fail
  refine H.out.mono ?_
  rintro e w1 ⟨aa, cap, rfl, ho, ht, hb⟩
  have HL1 := Lib.hid ((Led.nil' w).new (t' := row 95 3 (.slice aa L.length cap) L.length (factCells L)) (f' := sb (.slice aa L.length cap)) ⟨rfl, ho⟩ ⟨ht, fun k hk => .inr (hb k hk)⟩)
  clear ho ht hb
  go_wp2
  go_ret
  exact ⟨_, _, rfl, HL1.out.alloc _ _⟩

/-- A loop over States. -/
theorem range_statesL {n : Nat} {gop : Operand} {ps : Array Tmp} {assign body : Code} {Q : Exit → Act → World → Prop} {a : Act} {w w0 : World} {T : List Nat} {bl : Nat} {v : Value} {L : List FAct}
    (hg : a.eval gop = .func (.func 91) #[] #[.pointer (some ⟨bl, 0, none⟩)]) (hps : ps.size = 2) (hL : L.length ≤ 1000000) (Rc : Nat → List Thing) (X : Code → List Thing → Prop)
    (ib ir : Nat) (hib : ∀ k, (Rc k)[ib]? = some (box bl 92 #[v])) (hir : ∀ k, (Rc k)[ir]? = some (row 95 3 v L.length (factCells L))) (h0 : Led T w0 w (Rc 0))
    (hround : ∀ (k : Nat) p (W : World) (o0 : Obj) (hk : k < L.length), okTo L (k + 1) → Led T w0 W (Rc k ++ effL (some p) ++ marks w.heap.size o0) →
      assign.wpIn (Fence.wide.inRound (w.heap.size + 1)) (n - 1 - 1) Try.prog (Exit.then (fun a1 W1 => ∃ m, Led T w0 W1 (Rc k ++ effL (some p) ++ marks w.heap.size o0 ++ m) ∧
        ∀ W2 o, Led T w0 W2 (Rc k ++ effL (some p) ++ marks w.heap.size o ++ m) → body.wpIn (Fence.wide.inRound (w.heap.size + 1)) (n - 1 - 1) Try.prog (bodyL T w0 w.heap.size o (Rc (k + 1) ++ effL (some p)) X) a1 W2) (fun _ _ _ => False))
        { tmps := (ps.zip #[.int .i64 (k : Int), .int .i64 (stAt L (k + 1))]).foldl (fun t (p, v) => t.setIfInBounds p v) a.tmps, defers := [] } W)
    (hdone : ∀ k p W, k ≤ L.length → okTo L k → (k < L.length → actB (L.getD k ⟨0, false, 0⟩) (stAt L k) = false) → Led T w0 W (Rc k ++ effL p ++ marks1 w.heap.size) → Q .normal { a with defers := { target := .collected w.heap.size, args := #[] } :: a.defers } W)
    (hstop : ∀ c W lx, X c lx → Led T w0 W (lx ++ marks1 w.heap.size) → c.wpIn Fence.wide n Try.prog Q { a with defers := { target := .collected w.heap.size, args := #[] } :: a.defers } W) :
    (Code.rangeFunc gop ps assign body).wpIn Fence.wide n Try.prog Q a w := by
  refine wp_rangeL hg (enters_of Try.func91 (by kernel_rfl) rfl) (fun b : Nat × Option (Nat × Nat × Nat × Nat × Nat) => Rc b.1 ++ effL b.2) X (stFin L)
    (fun b xs b' => ∃ k p, b = (k, some p) ∧ b' = (k + 1, some p) ∧ k < L.length ∧ okTo L (k + 1) ∧ xs = #[.int .i64 (k : Int), .int .i64 (stAt L (k + 1))])
    (fun b xs b' ⟨k, p, _, _, _, _, hx⟩ => by rw [hx, hps]; rfl) (0, none) (by simpa [effL] using h0) ?_ ?_ (fun b W hF hj => hdone b.1 b.2 W hF.1 hF.2.1 hF.2.2 hj) hstop
  · rintro b xs b' W o0 ⟨k, p, rfl, rfl, hk, hok, rfl⟩ hj
    exact hround k p W o0 hk hok hj
  · intro J' Jx' hJ hC hY W hW'
    exact states_iter (n - 1) (w.heap.size + 1) bl w.heap.size v L T w0 Rc ib ir hib hir hL J' Jx' hJ hC (fun k p W hk hok h => hY (k, some p) _ (k + 1, some p) W ⟨k, p, rfl, rfl, hk, hok, rfl⟩ h) W hW'

theorem Led.mark_end {T : List Nat} {w0 w : World} {l : List Thing} {D : Nat} (h : Led T w0 w (l ++ marks1 D)) : w.heap[D]? = some (.deferred (some [])) ∧ Touch T w0 (w.putObj D (.deferred none)) := by
  have hi : (l ++ marks1 D)[l.length]? = some (Proofs.Ytegebecogbebaaa.mark D) := by simp [marks1]
  exact ⟨h.mark _ hi, (h.shut _ hi).tch⟩
/-- How far acts follow. -/
def Far (L : List FAct) (k : Nat) : Prop := k ≤ L.length ∧ okTo L k ∧ (k < L.length → actB (L.getD k ⟨0, false, 0⟩) (stAt L k) = false)
theorem Far.unique {L : List FAct} {a b : Nat} (ha : Far L a) (hb : Far L b) : a = b := by
  rcases Nat.lt_trichotomy a b with h | h | h
  · have h1 := ha.2.2 (by have := hb.1; omega)
    rw [hb.2.1 a h] at h1
    cases h1
  · exact h
  · have h1 := hb.2.2 (by have := ha.1; omega)
    rw [ha.2.1 b h] at h1
    cases h1

set_option maxHeartbeats 4000000 in
theorem Follows_in (n : Nat) (w : World) (v : Value) (L : List FAct) (K : Nat) (hK : Far L K) (h : w.ownsRow 0 95 3 v L.length (factCells L)) (hl : L.length ≤ 1000000) :
    CallsIn Fence.wide n Try.prog 49 #[v] w fun e w' => e = .returned (.tuple #[.int .i64 ((if K < L.length then K else 0 : Nat) : Int), .bool (decide (¬ K < L.length))]) ∧ Touch [] w w' := by
  obtain ⟨va, vc, rfl, _, _⟩ := own_val h
  have HA := Lib.hid h
  have HF := Lib.hid hK
  clear h hK
  refine callsIn_of_wp_marks Try.func49 rfl trivial ?_ rfl
  simp only [Try.ntmps49, List.size_toArray, List.length_cons, List.length_nil, Nat.reduceAdd, Nat.reduceSub, Array.replicate_succ, Array.replicate_zero, List.push_toArray, List.append_toArray, List.nil_append, List.cons_append]
  gi_wp2_with fail
  refine wpIn_scope_straight ?_
  gi_wp2_with fail
  refine wpIn_label ?_
  gi_wp2_with fail
  refine ⟨trivial, nodepth, ?_⟩
  refine (callsIn_wide.2 (States_any _ _ L ((HA.out.alloc _).alloc _) hl)).mono ?_
  rintro e w1 ⟨bl, v', rfl, h1⟩
  have HL1 := Lib.hid (((Led.nil' w).al2 rfl).join h1)
  simp only [List.nil_append, List.cons_append, World.size_alloc] at HL1
  obtain ⟨b4, hb4⟩ : ∃ b, w.heap.size + 1 = b := ⟨_, rfl⟩
  rw [hb4] at HL1 ⊢
  obtain ⟨b1, hb1⟩ : ∃ b, w.heap.size = b := ⟨_, rfl⟩
  rw [hb1] at HL1 ⊢
  clear h1 hb4 hb1
  gi_wp2_with fail
  refine range_statesL (bl := bl) (v := v') (L := L) rfl rfl hl (fun k => [box b1 92 #[.slice va L.length vc], box b4 3 #[.int .i64 (k : Int)], row 95 3 v' L.length (factCells L), box bl 92 #[v']])
    (fun c lx => c = .exit 0 ∧ okTo L L.length ∧ ∃ p, lx = [box b1 92 #[.slice va L.length vc], box b4 3 #[.int .i64 (L.length : Int)], row 95 3 v' L.length (factCells L), box bl 92 #[v']] ++ effL (some p)) 3 2 (fun _ => rfl) (fun _ => rfl) HL1.out ?hround ?hdone ?hstop
  case hround =>
    intro k p W o0 hk hok h
    obtain ⟨D, hD⟩ : ∃ D, w1.heap.size = D := ⟨_, rfl⟩
    rw [hD] at h ⊢
    have HK := Lib.hid h
    have HOK := Lib.hid hok
    clear h hD hok
    gi_wp2
    refine ⟨[], by simpa using HK.out, fun W2 o h2 => ?_⟩
    obtain ⟨M, e1, e2, e3, e4⟩ := p
    have HK2 := Lib.hid h2
    simp only [effL, effT, marks, List.nil_append, List.cons_append, List.append_nil] at HK2
    clear h2 HK
    obtain ⟨n0, fn, zn, _, _⟩ := HK2.out.c1 1 rfl
    obtain ⟨l0, _, zl, _, _⟩ := HK2.out.c1 0 rfl
    have n5 := HK2.out.ne 0 1 rfl rfl (by decide)
    have n6 := Ne.symm n5
    by_cases heq : k + 1 = L.length
    · have hb : ((k : Int) + 1 == (L.length : Int)) = true := by simp; omega
      have HE := Lib.hid heq
      clear heq
      gi_wp2
      have hs := HK2.out.set 1 rfl 0 (.int .i64 ((k : Int) + 1))
      refine ⟨_, [], ⟨rfl, HE.out ▸ HOK.out, (M, e1, e2, e3, e4), rfl⟩, ?_⟩
      rw [← HE.out]
      rw [← HE.out] at hs
      exact hs
    · have hb : ((k : Int) + 1 == (L.length : Int)) = false := by simp; omega
      clear heq
      gi_wp2
      have hs := HK2.out.set 1 rfl 0 (.int .i64 ((k : Int) + 1))
      exact ⟨[], hs⟩
  case hdone =>
    intro k p W hk1 hk2 hk3 h
    obtain ⟨D, hD⟩ : ∃ D, w1.heap.size = D := ⟨_, rfl⟩
    rw [hD] at h ⊢
    have HK := Lib.hid h
    obtain rfl : k = K := Far.unique ⟨hk1, hk2, hk3⟩ HF.out
    obtain ⟨n0, fn, zn, _, _⟩ := HK.out.c1 1 rfl
    obtain ⟨l0, _, zl, _, _⟩ := HK.out.c1 0 rfl
    clear h hD hk2 hk3
    obtain ⟨hmk, htc⟩ := HK.out.mark_end
    have HMK := Lib.hid hmk
    have HTC := Lib.hid htc
    clear hmk htc
    by_cases hlt : k < L.length
    · have hlt' : (k : Int) < (L.length : Int) := by omega
      have HE1 : Hid ((if k < L.length then k else 0 : Nat) = k) := if_pos hlt
      have HE2 : Hid (decide (¬ k < L.length) = false) := by simp [Hid, hlt]
      gi_wp2
      (try refine noGoto_ret' ?_)
      refine leave_marks (v := .tuple #[.int .i64 (k : Int), .bool false]) [D] _ (by simpa using HMK.out) (by simp) (by simp [results, Try.results49, go_sem]) ⟨by first | rfl | rw [HE1.out, HE2.out], HTC.out⟩
    · have hlt' : ¬ (k : Int) < (L.length : Int) := by omega
      have HE1 : Hid ((if k < L.length then k else 0 : Nat) = 0) := if_neg hlt
      have HE2 : Hid (decide (¬ k < L.length) = true) := by simp [Hid, hlt]
      gi_wp2
      (try refine noGoto_ret' ?_)
      refine leave_marks (v := .tuple #[.int .i64 0, .bool true]) [D] _ (by simpa using HMK.out) (by simp) (by simp [results, Try.results49, go_sem]) ⟨by first | rfl | (rw [HE1.out, HE2.out]; rfl), HTC.out⟩
  case hstop =>
    rintro c W lx ⟨rfl, hok, p, rfl⟩ h
    obtain ⟨D, hD⟩ : ∃ D, w1.heap.size = D := ⟨_, rfl⟩
    rw [hD] at h ⊢
    have HK := Lib.hid h
    obtain rfl : L.length = K := Far.unique ⟨Nat.le_refl _, hok, fun h => by omega⟩ HF.out
    obtain ⟨n0, fn, zn, _, _⟩ := HK.out.c1 1 rfl
    obtain ⟨l0, _, zl, _, _⟩ := HK.out.c1 0 rfl
    obtain ⟨hmk, htc⟩ := HK.out.mark_end
    have HMK := Lib.hid hmk
    have HTC := Lib.hid htc
    clear h hD hok hmk htc
    gi_wp2
    (try refine noGoto_ret' ?_)
    refine leave_marks (v := .tuple #[.int .i64 0, .bool true]) [D] _ (by simpa using HMK.out) (by simp) (by simp [results, Try.results49, go_sem]) ⟨by first | rfl | simp, HTC.out⟩
theorem Follows_any (w : World) (v : Value) (L : List FAct) (K : Nat) (hK : Far L K) (h : w.ownsRow 0 95 3 v L.length (factCells L)) (hl : L.length ≤ 1000000) :
    Calls Try.prog 49 #[v] w fun e w' => e = .returned (.tuple #[.int .i64 ((if K < L.length then K else 0 : Nat) : Int), .bool (decide (¬ K < L.length))]) ∧ Touch [] w w' :=
  (callsIn_wide (n := 0)).1 (Follows_in 0 w v L K hK h hl)
end Go.Proofs.Ytegebecogbebaaa
