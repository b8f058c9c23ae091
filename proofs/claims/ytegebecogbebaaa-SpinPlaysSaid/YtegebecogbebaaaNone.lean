/-
  No arena (nil, or one that New did not make): what each function of layers 1 and 3 tells of it.
-/
import Derived.Test.YtegebecogbebaaaRangeTries
import Derived.Test.YtegebecogbebaaaLogIter
namespace Go.Proofs.Ytegebecogbebaaa
open Go.RowKit Go.Shelf
set_option maxRecDepth 100000
set_option linter.unusedVariables false
set_option linter.unusedSimpArgs false
attribute [local go_sem] Oper.semAt_some

theorem NoAr.touch {w w' : World} {p : Value} {S : List Nat} (h : NoAr w p) (ht : Touch S w w') (hS : ∀ g, p = .pointer (some ⟨g, 0, none⟩) → g ∉ S) : NoAr w' p := by
  rcases h with h | ⟨g, h, hc⟩
  · exact .inl h
  · refine .inr ⟨g, h, ?_⟩
    rw [World.cell?_of_block (a := ⟨g, 2, none⟩) (ht.block g (World.block_lt_of_cell? w ⟨g, 2, none⟩ hc) (hS g h))]
    exact hc

section
variable (w : World) (pa : Option Addr) (h : NoAr w (.pointer pa))
include h
theorem Alloc_none (n : Int) : Calls Try.prog 21 #[.pointer pa, .int .i64 n] w fun e w' => e = .returned (.tuple #[.int .i64 0, .int .i64 1]) ∧ w = w' := by
  have H := Lib.hid h
  clear h
  go_enter Try.func21, Try.ntmps21
  go_wp2_with (go_at_call 51; refine (missing_yes _ _ H.out).mono ?_; rintro e w' ⟨rfl, rfl⟩)
  go_ret2
  exact ⟨rfl, rfl⟩
theorem Len_none : Calls Try.prog 35 #[.pointer pa] w fun e w' => e = .returned (.int .i64 0) ∧ w = w' := by
  have H := Lib.hid h
  clear h
  go_enter Try.func35, Try.ntmps35
  go_wp2_with (go_at_call 51; refine (missing_yes _ _ H.out).mono ?_; rintro e w' ⟨rfl, rfl⟩)
  go_ret
  exact ⟨rfl, rfl⟩
theorem Most_none : Calls Try.prog 36 #[.pointer pa] w fun e w' => e = .returned (.int .i64 0) ∧ w = w' := by
  have H := Lib.hid h
  clear h
  go_enter Try.func36, Try.ntmps36
  go_wp2_with (go_at_call 51; refine (missing_yes _ _ H.out).mono ?_; rintro e w' ⟨rfl, rfl⟩)
  go_ret
  exact ⟨rfl, rfl⟩
theorem Count_none : Calls Try.prog 26 #[.pointer pa] w fun e w' => e = .returned (.int .u64 0) ∧ w = w' := by
  have H := Lib.hid h
  clear h
  go_enter Try.func26, Try.ntmps26
  go_wp2_with (go_at_call 51; refine (missing_yes _ _ H.out).mono ?_; rintro e w' ⟨rfl, rfl⟩)
  go_ret
  exact ⟨rfl, rfl⟩
theorem Copy_none : Calls Try.prog 37 #[.pointer pa] w fun e w' => e = .returned (.pointer none) ∧ w = w' := by
  have H := Lib.hid h
  clear h
  go_enter Try.func37, Try.ntmps37
  go_wp2_with (go_at_call 51; refine (missing_yes _ _ H.out).mono ?_; rintro e w' ⟨rfl, rfl⟩)
  go_ret
  exact ⟨rfl, rfl⟩
theorem Log_none : Calls Try.prog 27 #[.pointer pa] w fun e w' => e = .returned (.func (.func 57) #[] #[]) ∧ w = w' := by
  have H := Lib.hid h
  clear h
  go_enter Try.func27, Try.ntmps27
  go_wp2_with (go_at_call 51; refine (missing_yes _ _ H.out).mono ?_; rintro e w' ⟨rfl, rfl⟩)
  go_ret
  exact ⟨rfl, rfl⟩
theorem Load_none (at_ : Int) : Calls Try.prog 22 #[.pointer pa, .int .i64 at_] w fun e w' => e = .returned (.tuple #[.int .u64 0, .int .i64 1]) ∧ w = w' := by
  have H := Lib.hid h
  clear h
  go_enter Try.func22, Try.ntmps22
  go_wp2_with fail
  refine (access_none _ _ _ _ _ (H.out)).mono ?_
  rintro e w' ⟨rfl, rfl⟩
  go_wp2
  go_ret2
  exact ⟨rfl, rfl⟩
theorem Store_none (at_ v : Int) : Calls Try.prog 23 #[.pointer pa, .int .i64 at_, .int .u64 v] w fun e w' => e = .returned (.int .i64 1) ∧ Touch [] w w' := by
  have H := Lib.hid h
  clear h
  go_enter Try.func23, Try.ntmps23
  go_wp2_with fail
  refine (access_none _ _ _ _ _ (H.out.touch ((Touch.refl [] w).alloc _) (by simp))).mono ?_
  rintro e w' ⟨rfl, rfl⟩
  go_wp2
  go_ret
  exact ⟨rfl, (Touch.refl [] w).alloc _⟩
theorem Swap_none (at_ x y : Int) : Calls Try.prog 24 #[.pointer pa, .int .i64 at_, .int .u64 x, .int .u64 y] w fun e w' => e = .returned (.tuple #[.int .u64 0, .bool false, .int .i64 1]) ∧ Touch [] w w' := by
  have H := Lib.hid h
  clear h
  go_enter Try.func24, Try.ntmps24
  go_wp2_with fail
  refine (access_none _ _ _ _ _ (H.out.touch (((Touch.refl [] w).alloc _).alloc _) (by simp))).mono ?_
  rintro e w' ⟨rfl, rfl⟩
  go_wp2
  refine bodyPost_ret (v := .tuple #[.int .u64 0, .bool false, .int .i64 1]) (by simp [results, go_sem]) rfl ⟨rfl, ((Touch.refl [] w).alloc _).alloc _⟩
theorem Add_none (at_ x : Int) : Calls Try.prog 25 #[.pointer pa, .int .i64 at_, .int .u64 x] w fun e w' => e = .returned (.tuple #[.int .u64 0, .int .i64 1]) ∧ Touch [] w w' := by
  have H := Lib.hid h
  clear h
  go_enter Try.func25, Try.ntmps25
  go_wp2_with fail
  refine (access_none _ _ _ _ _ (H.out.touch ((Touch.refl [] w).alloc _) (by simp))).mono ?_
  rintro e w' ⟨rfl, rfl⟩
  go_wp2
  go_ret2
  exact ⟨rfl, (Touch.refl [] w).alloc _⟩
theorem SpinNew_none : Calls Try.prog 15 #[.pointer pa] w fun e w' => e = .returned (.tuple #[.int .i64 0, .int .i64 1]) ∧ w = w' := by
  have H := Lib.hid h
  clear h
  go_enter Try.func15, Try.ntmps15
  go_wp2_with fail
  refine (Alloc_none _ _ H.out _).mono ?_
  rintro e w' ⟨rfl, rfl⟩
  go_wp2
  go_ret2
  exact ⟨rfl, rfl⟩
theorem Try_none (at_ : Int) : Calls Try.prog 18 #[.pointer pa, .int .i64 at_] w fun e w' => e = .returned (.tuple #[.bool false, .int .i64 1]) ∧ Touch [] w w' := by
  have H := Lib.hid h
  clear h
  go_enter Try.func18, Try.ntmps18
  go_wp2_with fail
  refine (Swap_none _ _ H.out _ _ _).mono ?_
  rintro e w' ⟨rfl, ht⟩
  have HT := Lib.hid ht
  clear ht
  go_wp2
  go_ret2
  exact ⟨rfl, HT.out⟩
theorem Free_none (at_ : Int) : Calls Try.prog 17 #[.pointer pa, .int .i64 at_] w fun e w' => e = .returned (.int .i64 1) ∧ Touch [] w w' := by
  have H := Lib.hid h
  clear h
  go_enter Try.func17, Try.ntmps17
  go_wp2_with fail
  refine (Swap_none _ _ H.out _ _ _).mono ?_
  rintro e w' ⟨rfl, ht⟩
  have HT := Lib.hid ht
  clear ht
  go_wp2
  go_ret
  exact ⟨rfl, HT.out⟩
theorem Held_none (at_ : Int) : Calls Try.prog 19 #[.pointer pa, .int .i64 at_] w fun e w' => e = .returned (.tuple #[.bool false, .int .i64 1]) ∧ w = w' := by
  have H := Lib.hid h
  clear h
  go_enter Try.func19, Try.ntmps19
  go_wp2_with fail
  refine (Load_none _ _ H.out _).mono ?_
  rintro e w' ⟨rfl, rfl⟩
  go_wp2
  go_ret2
  exact ⟨rfl, rfl⟩
theorem States_none (v : Value) : Calls Try.prog 31 #[.pointer pa, v] w fun e w' => e = .returned (.tuple #[.slice none 0 0, .int .i64 1]) ∧ w = w' := by
  have H := Lib.hid h
  clear h
  go_enter Try.func31, Try.ntmps31
  go_wp2_with fail
  refine (Most_none _ _ H.out).mono ?_
  rintro e w' ⟨rfl, rfl⟩
  go_wp2
  go_ret2
  exact ⟨rfl, rfl⟩
end

/-- A loop over the tries of no arena comes to no round. -/
theorem range_tries_none {n : Nat} {gop : Operand} {ps : Array Tmp} {assign body : Code} {Q : Exit → Act → World → Prop} {a : Act} {w : World} {pa : Option Addr} {at_ most : Int} {bm ba bt : Nat}
    (hg : a.eval gop = .func (.func 62) #[] #[.pointer (some ⟨bm, 0, none⟩), .pointer (some ⟨ba, 0, none⟩), .pointer (some ⟨bt, 0, none⟩)])
    (hmost : most ≤ 9223372036854775807) (hN : NoAr w (.pointer pa)) (hm : Blk w bm 3 #[.int .i64 most]) (ha : Blk w ba 24 #[.pointer pa]) (ht : Blk w bt 3 #[.int .i64 at_])
    (hdone : ∀ W, Touch [] w W → W.heap[w.heap.size]? = some (.deferred (some [])) → Q .normal { a with defers := { target := .collected w.heap.size, args := #[] } :: a.defers } W) :
    (Code.rangeFunc gop ps assign body).wpIn Fence.wide n Try.prog Q a w := by
  refine wp_range (β := Nat × Bool) hg (enters_of Try.func62 (by kernel_rfl) rfl) (fun _ W => Touch [] w W) (fun _ _ => False) (TriesFin (fun _ => false) (fun _ => 1) most)
    (fun b xs b' => False) (fun b xs b' h => h.elim) (fun b W o h => h.putObj (.inl (by omega)) o) (fun _ _ _ h => h) (0, false) (fun o => ((Touch.refl [] w).alloc _).alloc _) (fun b xs b' W h => h.elim) ?_
    (fun b W hF hj hk _ => hdone W hj hk) (fun c W h => h.elim)
  intro J' Jx' hJ hC hCx hY W hW'
  refine tries_iter (n - 1) (w.heap.size + 1) pa bm ba bt at_ most hmost (fun _ => false) (fun _ => 1) J' Jx' ?_ ?_ ?_ W hW'
  · intro b W hb
    obtain ⟨hj, _⟩ := hJ _ _ hb
    refine ⟨?_, ?_, ?_⟩
    · have := (hm.touch hj (by simp)).cell 0; simpa using this
    · have := (ha.touch hj (by simp)).cell 0; simpa using this
    · have := (ht.touch hj (by simp)).cell 0; simpa using this
  · intro k W hb
    obtain ⟨hj, hl⟩ := hJ _ _ hb
    refine (Try_none W pa (hN.touch hj (by simp)) at_).mono ?_
    rintro e W' ⟨rfl, ht'⟩
    exact ⟨rfl, hC _ _ _ _ hb (hj.trans ht' (by simp)) (ht'.kept hl (by simp) (by simp))⟩
  · intro k W _ h1
    simp at h1

/-- A loop over the log of no arena comes to no round. -/
theorem range_log_none {n : Nat} {gop : Operand} {ps : Array Tmp} {assign body : Code} {Q : Exit → Act → World → Prop} {a : Act} {w : World}
    (hg : a.eval gop = .func (.func 57) #[] #[])
    (hdone : ∀ W, Touch [] w W → W.heap[w.heap.size]? = some (.deferred (some [])) → Q .normal { a with defers := { target := .collected w.heap.size, args := #[] } :: a.defers } W) :
    (Code.rangeFunc gop ps assign body).wpIn Fence.wide n Try.prog Q a w := by
  refine wp_range (β := Unit) hg (enters_of Try.func57 (by kernel_rfl) rfl) (fun _ W => Touch [] w W) (fun _ _ => False) (fun _ => True)
    (fun b xs b' => False) (fun b xs b' h => h.elim) (fun b W o h => h.putObj (.inl (by omega)) o) (fun _ _ _ h => h) () (fun o => ((Touch.refl [] w).alloc _).alloc _) (fun b xs b' W h => h.elim) ?_
    (fun b W hF hj hk _ => hdone W hj hk) (fun c W h => h.elim)
  intro J' Jx' hJ hC hCx hY W hW'
  refine callsIn_of_wp Try.func57 rfl trivial ?_ rfl
  simp only [Try.ntmps57, List.size_toArray, List.length_cons, List.length_nil, Nat.reduceAdd, Nat.reduceSub, Array.replicate_succ, Array.replicate_zero, List.push_toArray, List.append_toArray, List.nil_append, List.cons_append]
  have HW := Lib.hid hW'
  clear hW' hJ hC hCx hY
  gi_wp2
  go_end0
  exact ⟨⟨_, rfl⟩, .inl ⟨(), trivial, HW.out⟩⟩

/-- A loop over an empty log comes to no round. -/
theorem range_log_empty {n : Nat} {gop : Operand} {ps : Array Tmp} {assign body : Code} {Q : Exit → Act → World → Prop} {a : Act} {w : World} {bl bf gg : Nat}
    (hg : a.eval gop = .func (.func 59) #[] #[.pointer (some ⟨bl, 0, none⟩), .pointer (some ⟨bf, 0, none⟩)]) (hL : LogAt w bl bf gg [])
    (hdone : ∀ W, Touch [] w W → W.heap[w.heap.size]? = some (.deferred (some [])) → Q .normal { a with defers := { target := .collected w.heap.size, args := #[] } :: a.defers } W) :
    (Code.rangeFunc gop ps assign body).wpIn Fence.wide n Try.prog Q a w := by
  refine wp_range (β := Nat) hg (enters_of Try.func59 (by kernel_rfl) rfl) (fun _ W => Touch [] w W) (fun _ _ => False) (fun k => k = (logL []).length)
    (fun b xs b' => False) (fun b xs b' h => h.elim) (fun b W o h => h.putObj (.inl (by omega)) o) (fun _ _ _ h => h) 0 (fun o => ((Touch.refl [] w).alloc _).alloc _) (fun b xs b' W h => h.elim) ?_
    (fun b W hF hj hk _ => hdone W hj hk) (fun c W h => h.elim)
  intro J' Jx' hJ hC hCx hY W hW'
  refine log_iter (n - 1) (w.heap.size + 1) bl bf gg [] (by simp) J' Jx' (fun k W h => hL.keep (fun j hj => (hJ k W h).1.block j (hL.lt j hj) (by simp))) (fun k W o h => ?_) (fun k W hk h => ?_) W hW'
  · obtain ⟨h1, h2⟩ := hJ k W h
    exact hC k W k _ h (h1.alloc o) ⟨Below.heap_alloc W o _ (by omega), Below.heap_alloc W o _ h2⟩
  · simp [logL] at hk

section
variable (w : World)
theorem Same_none (pa pb : Option Addr) (ha : NoAr w (.pointer pa)) (hb : NoAr w (.pointer pb)) : Calls Try.prog 38 #[.pointer pa, .pointer pb] w fun e w' => e = .returned (.bool true) ∧ w = w' := by
  have H := Lib.hid ha
  have H2 := Lib.hid hb
  clear ha hb
  go_enter Try.func38, Try.ntmps38
  go_wp2_with fail
  refine (missing_yes _ _ H.out).mono ?_
  rintro e w' ⟨rfl, rfl⟩
  go_wp2_with fail
  refine (missing_yes _ _ H.out).mono ?_
  rintro e w' ⟨rfl, rfl⟩
  go_wp2_with fail
  refine (missing_yes _ _ H2.out).mono ?_
  rintro e w' ⟨rfl, rfl⟩
  go_wp2
  go_ret
  exact ⟨rfl, rfl⟩
theorem Same_left (g : Nat) (fp : List Nat) (s : Ar) (hI : IsAr w g fp s) (pb : Option Addr) (hb : NoAr w (.pointer pb)) : Calls Try.prog 38 #[.pointer (some ⟨g, 0, none⟩), .pointer pb] w fun e w' => e = .returned (.bool false) ∧ w = w' := by
  obtain ⟨v1, v2, r, hA, rfl⟩ := hI
  have h2 := hA.blk.cell 2
  simp at h2
  have hm1 := hA.most1
  have H2 := Lib.hid hb
  clear hb hA
  go_enter Try.func38, Try.ntmps38
  go_wp2_with fail
  refine (missing_no _ _ _ h2 hm1).mono ?_
  rintro e w' ⟨rfl, rfl⟩
  go_wp2_with fail
  refine (missing_yes _ _ H2.out).mono ?_
  rintro e w' ⟨rfl, rfl⟩
  go_wp2_with fail
  refine (missing_no _ _ _ h2 hm1).mono ?_
  rintro e w' ⟨rfl, rfl⟩
  go_wp2
  go_ret
  exact ⟨rfl, rfl⟩
end
theorem Wk.SameL {S : List Nat} {B : Nat} {w0 w : World} {g : Nat} {s : Ar} (h : Wk S B w0 w g s) (pb : Option Addr) (hb : NoAr w (.pointer pb)) : Calls Try.prog 38 #[.pointer (some ⟨g, 0, none⟩), .pointer pb] w fun e w' => e = .returned (.bool false) ∧ w = w' := by
  obtain ⟨fp, hI, _⟩ := h
  exact Same_left w g fp s hI pb hb
theorem NoAr.same {w w' : World} {pa : Option Addr} {S : List Nat} (h : NoAr w (.pointer pa)) (hs : Same S w w') (hS : ∀ g, pa = some ⟨g, 0, none⟩ → g ∈ S) : NoAr w' (.pointer pa) := by
  rcases h with h | ⟨g, h, hc⟩
  · exact .inl h
  · refine .inr ⟨g, h, ?_⟩
    injection h with h
    rw [World.cell?_of_block (a := ⟨g, 2, none⟩) (hs g (hS g h))]
    exact hc
end Go.Proofs.Ytegebecogbebaaa
