/-
  The reference of layer 13 (betrothalref13/ref.go): Push, Pushes, Drop, Purge: what they make never turns.
-/
import Derived.Test.YtihmbgdkllmkaaaR13
import Derived.Test.YtihmbgdkllmkaaaQC
import Derived.Deep.RegionHeld3
namespace Go.Proofs.Ytihmbgdkllmkaaa
open Go.RowKit Go.Shelf
set_option maxRecDepth 100000
set_option linter.unusedVariables false
set_option linter.unusedSimpArgs false

theorem Blk.src {w : World} {g : Nat} {t : TypeId} {cs : Array Value} (h : Blk w g t cs) : ∀ j u, cs.toList[j]? = some u → w.cell? ((⟨g, 0, none⟩ : Addr).add j) = some u := by
  intro j u hu
  rw [Addr.add_lit, Nat.zero_add, h.cell j]
  simpa using hu
theorem build_rq (a : Option Addr) (n c : Nat) (w : World) : (Instr.build 54 #[(0, .slice a n c)]).run Try.prog w = .ok (.agg #[.slice a n c]) w := run_build w 54 _ _ (by kernel_rfl)
theorem rowS_le {w : World} {e size n cap : Nat} {a : Option Addr} {xs : List Value} (h : rowS w e size (.slice a n cap) n xs) : n ≤ cap := by
  obtain ⟨a', c', hv, h1, _⟩ := rowS_val h
  injection hv with _ _ h3
  omega
theorem cells_one (x : ME) : ∀ u ∈ x.cells, u.oneCell' = true := by have := ents_one [x]; simpa [entCells] using this
/-- The reference's queue holds rs now, in memory that never turns. -/
def Grew (T : List Nat) (w : World) (P : World → Prop) (a : Option Addr) (rs : List ME) (w' : World) : Prop := ∃ P' : World → Prop, (∀ W, P' W → P W ∧ EntsAt W a rs) ∧ Led T w w' [stillT P']
theorem Grew.same {T : List Nat} {w w' : World} {P : World → Prop} {a : Option Addr} {rs : List ME} {rest : List Thing} (h : Led T w w' (stillT P :: rest)) (hP : ∀ W, P W → EntsAt W a rs) : Grew T w P a rs w' := ⟨P, fun W hW => ⟨hW, hP W hW⟩, Led.sub_end (l := [stillT P]) (m := rest) h⟩
theorem Grew.made {T : List Nat} {w w' : World} {P : World → Prop} {a : Option Addr} {cap n : Nat} {rs : List ME} (hn : rs.length = n) (h : Led T w w' [stillT P, rowT 27 7 (.slice a n cap) n (entCells rs)]) : Grew T w P a rs w' := by
  subst hn
  exact ⟨fun W => P W ∧ EntsAt W a rs, fun W hW => hW, Led.settle (l := [stillT P]) h 0 rfl (fun W f hW hf => ⟨hW, ents_of_rowS hf.2⟩)⟩
/-- What the reference's Push of one entry tells. -/
def PushedR (T : List Nat) (w : World) (P : World → Prop) (rs : List ME) (x : ME) (e : Ending) (w' : World) : Prop :=
  ∃ (err : Int) (a' : Option Addr) (cap' : Nat) (rs' : List ME), e = .returned (.tuple #[.agg #[.slice a' rs'.length cap'], .int .i64 err]) ∧ rs'.length ≤ cap' ∧ ((err = 2 ∧ ¬ x.plain.Ok ∧ rs' = rs) ∨ (err = 6 ∧ x.plain.Ok ∧ rs.length = 4096 ∧ rs' = rs) ∨ (err = 0 ∧ x.plain.Ok ∧ rs.length < 4096 ∧ rs' = rs ++ [x])) ∧ Grew T w P a' rs' w'
set_option maxHeartbeats 4000000 in
theorem Push_ref (T : List Nat) (w : World) (P : World → Prop) (a : Option Addr) (cap : Nat) (rs : List ME) (x : ME) (hcap : rs.length ≤ cap) (h : Led T w w [stillT P]) (hP : ∀ W, P W → EntsAt W a rs ∧ x.v.In W) (hnx : x.v.nodes ≤ 1048576) (hlen : rs.length ≤ 4096) :
    Calls Try.prog 107 #[.agg #[.slice a rs.length cap], x.val] w (PushedR T w P rs x) := by
  have HP := Lib.hid hP
  have HL0 := Lib.hid h
  have hbq := build_rq
  obtain ⟨i0, hi0, iz0, iz1, iz2⟩ := info_parts info_ent
  clear h hP
  simp only [ent_eq]
  go_enter Try.func107, Try.ntmps107
  go_wp2_with fail
  refine wp_calls_name ?_
  intro w1 hw1
  have HL1 := Lib.hid (HL0.out.al3 hw1)
  simp only [List.nil_append, List.cons_append] at HL1
  obtain ⟨b4, hb4⟩ : ∃ b, w.heap.size + 1 + 1 = b := ⟨_, rfl⟩
  rw [hb4] at HL1 ⊢
  obtain ⟨b3, hb3⟩ : ∃ b, w.heap.size + 1 = b := ⟨_, rfl⟩
  rw [hb3] at HL1 ⊢
  obtain ⟨b2, hb2⟩ : ∃ b, w.heap.size = b := ⟨_, rfl⟩
  rw [hb2] at HL1 ⊢
  clear hw1 hb4 hb3 hb2 HL0
  refine (Right_ent x w1 (HP.out _ (HL1.out.still 0 rfl)).2 hnx).mono ?_
  rintro e w3 ⟨cc, rfl, hcc, ht⟩
  have HL3 := Lib.hid (HL1.out.touch ht)
  have HCC := Lib.hid hcc
  clear hcc ht HL1
  obtain ⟨v0, _, hl2, _, _⟩ := HL3.out.c1 1 rfl
  obtain ⟨x0, x1, x2, x3, x4, x5, x6, _, hl3, _, _⟩ := HL3.out.c7 2 rfl
  obtain ⟨u0, uf, hl4, _, _⟩ := HL3.out.c1 3 rfl
  cases cc with
  | false =>
    go_wp2
    have HL4 := Lib.hid (HL3.out.set 3 rfl 0 (.slice a rs.length cap))
    simp only [List.set_cons_succ, List.set_cons_zero, List.setIfInBounds_toArray] at HL4
    obtain ⟨s0, _⟩ := HL4.out.c1 3 rfl
    refine bodyPost_ret (v := .tuple #[.agg #[.slice a rs.length cap], .int .i64 2]) (by simp [results, Try.results107, go_sem, s0]) rfl ?_
    exact ⟨2, a, cap, rs, rfl, hcap, .inl ⟨rfl, fun hk => (by have := HCC.out.2 hk; cases this), rfl⟩, Grew.same HL4.out (fun W hW => (HP.out W hW).1)⟩
  | true =>
    have HOK : Hid x.plain.Ok := HCC.out.1 rfl
    clear HCC
    by_cases hfull : rs.length = 4096
    · have hf1 : (4096 : Int) ≤ (rs.length : Int) := by omega
      have HFU := Lib.hid hfull
      clear hfull
      go_wp2
      have HL4 := Lib.hid (HL3.out.set 3 rfl 0 (.slice a rs.length cap))
      simp only [List.set_cons_succ, List.set_cons_zero, List.setIfInBounds_toArray] at HL4
      obtain ⟨s0, _⟩ := HL4.out.c1 3 rfl
      refine bodyPost_ret (v := .tuple #[.agg #[.slice a rs.length cap], .int .i64 6]) (by simp [results, Try.results107, go_sem, s0]) rfl ?_
      exact ⟨6, a, cap, rs, rfl, hcap, .inr (.inl ⟨rfl, HOK.out, HFU.out, rfl⟩), Grew.same HL4.out (fun W hW => (HP.out W hW).1)⟩
    · have hf1 : ¬ (4096 : Int) ≤ (rs.length : Int) := by omega
      have n1 := HL3.out.ne 1 3 rfl rfl (by decide)
      have n2 := Ne.symm n1
      have n3 := HL3.out.ne 2 3 rfl rfl (by decide)
      have n4 := Ne.symm n3
      go_wp2_with fail
      have HLa := Lib.hid ((HL3.out.empty 27 7).drew)
      have HLb := Lib.hid (((HL3.out.empty 27 7).alloc 27 #[.int .i64 x.sync, .int .i64 x.thread, .int .i64 x.branch, .int .i64 x.flag, .int .i64 x.v.kind, .int .i64 x.v.num, .slice x.v.addr x.v.parts.length x.v.cap]).drew)
      have HLc := Lib.hid ((((HL3.out.alloc 27 #[.int .i64 x.sync, .int .i64 x.thread, .int .i64 x.branch, .int .i64 x.flag, .int .i64 x.v.kind, .int .i64 x.v.num, .slice x.v.addr x.v.parts.length x.v.cap]).empty 27 7).drew).pick [0, 1, 2, 3, 5, 4] (by decide) (by simp))
      simp only [List.nil_append, List.cons_append, World.size_alloc, List.filterMap_cons, List.filterMap_nil, List.getElem?_cons_zero, List.getElem?_cons_succ] at HLa HLb HLc
      go_region_held3 (fun w' => w'.cell? ⟨b2, 0, none⟩ = some (.slice a rs.length cap) ∧ w'.cell? ⟨b3, 0, none⟩ = some (.int .i64 x.sync) ∧ w'.cell? ⟨b3, 1, none⟩ = some (.int .i64 x.thread) ∧ w'.cell? ⟨b3, 2, none⟩ = some (.int .i64 x.branch) ∧ w'.cell? ⟨b3, 3, none⟩ = some (.int .i64 x.flag) ∧ w'.cell? ⟨b3, 4, none⟩ = some (.int .i64 x.v.kind) ∧ w'.cell? ⟨b3, 5, none⟩ = some (.int .i64 x.v.num) ∧ w'.cell? ⟨b3, 6, none⟩ = some (.slice x.v.addr x.v.parts.length x.v.cap)) (go_keep) (first
        | (refine step_append_S _ (by rfl) (.tmp 15) (.tmp 17) 32 (by rfl) 27 i0 _ 7 72 Try.underlying32 hi0 iz0 iz1 iz2 rfl (by decide) (.slice (some ⟨w3.heap.size, 0, none⟩) 0 0) 0 [] (by rfl) (HLa.out.rowSAt 4 rfl) a rs.length cap (entCells rs) (by rfl) (entCells_length rs) (HP.out _ (HLa.out.still 0 rfl)).1.src (ents_one rs) (by simp only [maxLen]; omega) (by omega) ?_; intro a2 c2 w2 hown hgrow hat; simp only [Nat.zero_add, List.nil_append] at hown hat ⊢; have HL4 := Lib.hid (HLa.out.grownS 4 rfl hgrow hown hat); simp only [List.set_cons_succ, List.set_cons_zero] at HL4; obtain ⟨v0, _, hl2, _, _⟩ := HL4.out.c1 1 rfl; obtain ⟨x0, x1, x2, x3, x4, x5, x6, _, hl3, _, _⟩ := HL4.out.c7 2 rfl; obtain ⟨u0, uf, hl4, _, _⟩ := HL4.out.c1 3 rfl; clear hown hgrow hat)
        | (refine step_append_S _ (by rfl) (.tmp 15) (.tmp 17) 32 (by rfl) 27 i0 _ 7 72 Try.underlying32 hi0 iz0 iz1 iz2 rfl (by decide) (.slice (some ⟨w3.heap.size, 0, none⟩) 0 0) 0 [] (by rfl) (HLb.out.rowSAt 4 rfl) a rs.length cap (entCells rs) (by rfl) (entCells_length rs) (HP.out _ (HLb.out.still 0 rfl)).1.src (ents_one rs) (by simp only [maxLen]; omega) (by omega) ?_; intro a2 c2 w2 hown hgrow hat; simp only [Nat.zero_add, List.nil_append] at hown hat ⊢; have HL4 := Lib.hid (HLb.out.grownS 4 rfl hgrow hown hat); simp only [List.set_cons_succ, List.set_cons_zero] at HL4; obtain ⟨v0, _, hl2, _, _⟩ := HL4.out.c1 1 rfl; obtain ⟨x0, x1, x2, x3, x4, x5, x6, _, hl3, _, _⟩ := HL4.out.c7 2 rfl; obtain ⟨u0, uf, hl4, _, _⟩ := HL4.out.c1 3 rfl; clear hown hgrow hat)
        | (refine step_append_S _ (by rfl) (.tmp 15) (.tmp 17) 32 (by rfl) 27 i0 _ 7 72 Try.underlying32 hi0 iz0 iz1 iz2 rfl (by decide) (.slice (some ⟨w3.heap.size + 1, 0, none⟩) 0 0) 0 [] (by rfl) (HLc.out.rowSAt 4 rfl) a rs.length cap (entCells rs) (by rfl) (entCells_length rs) (HP.out _ (HLc.out.still 0 rfl)).1.src (ents_one rs) (by simp only [maxLen]; omega) (by omega) ?_; intro a2 c2 w2 hown hgrow hat; simp only [Nat.zero_add, List.nil_append] at hown hat ⊢; have HL4 := Lib.hid (HLc.out.grownS 4 rfl hgrow hown hat); simp only [List.set_cons_succ, List.set_cons_zero] at HL4; obtain ⟨v0, _, hl2, _, _⟩ := HL4.out.c1 1 rfl; obtain ⟨x0, x1, x2, x3, x4, x5, x6, _, hl3, _, _⟩ := HL4.out.c7 2 rfl; obtain ⟨u0, uf, hl4, _, _⟩ := HL4.out.c1 3 rfl; clear hown hgrow hat)
        | (refine step_append_S _ (by rfl) (.tmp 18) (.tmp 20) 32 (by rfl) 27 i0 _ 7 72 Try.underlying32 hi0 iz0 iz1 iz2 rfl (by decide) (.slice a2 rs.length c2) rs.length (entCells rs) (by rfl) ((HL4.out.alloc _ _).rowSAt 4 rfl) (some ⟨w2.heap.size, 0, none⟩) 1 1 x.cells (by rfl) rfl (.inr ⟨_, rfl, ((HL4.out.alloc _ _).box 5 rfl).src⟩) (cells_one x) (by simp only [maxLen]; omega) (by omega) ?_; intro a3 c3 w3 hown hgrow hat; have HL5 := Lib.hid ((HL4.out.alloc _ _).grownS 4 rfl hgrow hown hat); simp only [List.set_cons_succ, List.set_cons_zero, List.cons_append, List.nil_append] at HL5; obtain ⟨v0, _, hl2, _, _⟩ := HL5.out.c1 1 rfl; obtain ⟨x0, x1, x2, x3, x4, x5, x6, _, hl3, _, _⟩ := HL5.out.c7 2 rfl; obtain ⟨u0, uf, hl4, _, _⟩ := HL5.out.c1 3 rfl; clear hown hgrow hat)
        | (refine step_append_S _ (by rfl) (.tmp 18) (.tmp 20) 32 (by rfl) 27 i0 _ 7 72 Try.underlying32 hi0 iz0 iz1 iz2 rfl (by decide) (.slice a2 rs.length c2) rs.length (entCells rs) (by rfl) (HL4.out.rowSAt 4 rfl) (some ⟨_, 0, none⟩) 1 1 x.cells (by rfl) rfl (.inr ⟨_, rfl, (HL4.out.box 5 rfl).src⟩) (cells_one x) (by simp only [maxLen]; omega) (by omega) ?_; intro a3 c3 w3 hown hgrow hat; have HL5 := Lib.hid (HL4.out.grownS 4 rfl hgrow hown hat); simp only [List.set_cons_succ, List.set_cons_zero, List.cons_append, List.nil_append] at HL5; obtain ⟨v0, _, hl2, _, _⟩ := HL5.out.c1 1 rfl; obtain ⟨x0, x1, x2, x3, x4, x5, x6, _, hl3, _, _⟩ := HL5.out.c7 2 rfl; obtain ⟨u0, uf, hl4, _, _⟩ := HL5.out.c1 3 rfl; clear hown hgrow hat))
      all_goals go_wp2
      all_goals have HLF := Lib.hid (HL5.out.set 3 rfl 0 (.slice a3 (rs.length + 1) c3))
      all_goals simp only [List.set_cons_succ, List.set_cons_zero, List.setIfInBounds_toArray] at HLF
      all_goals obtain ⟨s0, _⟩ := HLF.out.c1 3 rfl
      all_goals refine bodyPost_ret (v := .tuple #[.agg #[.slice a3 (rs.length + 1) c3], .int .i64 0]) (by simp [results, Try.results107, go_sem, s0]) rfl ?_
      all_goals refine ⟨0, a3, c3, rs ++ [x], (by simp), (by have := rowS_le (HLF.out.rowSAt 4 rfl); simpa using this), .inr (.inr ⟨rfl, HOK.out, by omega, rfl⟩), Grew.made (cap := c3) (n := rs.length + 1) (by simp) ?_⟩
      all_goals rw [entCells_append, show entCells [x] = x.cells from (by simp [entCells])]
      all_goals exact HLF.out.sel [0, 4] rfl (by decide)
end Go.Proofs.Ytihmbgdkllmkaaa
