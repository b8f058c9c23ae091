/-
  No arena (nil, or one that New did not make): what each function of layers 1 and 3 tells of it.
-/
import Derived.Test.YtihmbgdkllmkaaaSpin
import Derived.Test.YtihmbgdkllmkaaaLedC
namespace Go.Proofs.Ytihmbgdkllmkaaa
open Go.RowKit Go.Shelf
set_option maxRecDepth 100000
set_option linter.unusedVariables false
set_option linter.unusedSimpArgs false
attribute [local go_sem] Oper.semAt_some

theorem NoAr.touch {w w' : World} {p : Value} {S : List Nat} (h : NoAr w p) (ht : Touch S w w') (hS : ∀ g, p = .pointer (some ⟨g, 0, none⟩) → g ∉ S) : NoAr w' p := by
  rcases h with h | ⟨g, h, hc⟩
  · exact .inl h
  · refine .inr ⟨g, h, ?_⟩
    rw [World.cell?_of_block (a := ⟨g, 2, none⟩) (ht.block g (World.block_lt_of_cell? w ⟨g, 2, none⟩ hc) (hS g h))]
    exact hc

section
variable (w : World) (pa : Option Addr) (h : NoAr w (.pointer pa))
include h
theorem Alloc_none (n : Int) : Calls Try.prog 77 #[.pointer pa, .int .i64 n] w fun e w' => e = .returned (.tuple #[.int .i64 0, .int .i64 1]) ∧ w = w' := by
  have H := Lib.hid h
  clear h
  go_enter Try.func77, Try.ntmps77
  go_wp2_with (go_at_call 108; refine (missing_yes _ _ H.out).mono ?_; rintro e w' ⟨rfl, rfl⟩)
  go_ret2
  exact ⟨rfl, rfl⟩
theorem Len_none : Calls Try.prog 92 #[.pointer pa] w fun e w' => e = .returned (.int .i64 0) ∧ w = w' := by
  have H := Lib.hid h
  clear h
  go_enter Try.func92, Try.ntmps92
  go_wp2_with (go_at_call 108; refine (missing_yes _ _ H.out).mono ?_; rintro e w' ⟨rfl, rfl⟩)
  go_ret
  exact ⟨rfl, rfl⟩
theorem Count_none : Calls Try.prog 99 #[.pointer pa] w fun e w' => e = .returned (.int .u64 0) ∧ w = w' := by
  have H := Lib.hid h
  clear h
  go_enter Try.func99, Try.ntmps99
  go_wp2_with (go_at_call 108; refine (missing_yes _ _ H.out).mono ?_; rintro e w' ⟨rfl, rfl⟩)
  go_ret
  exact ⟨rfl, rfl⟩
theorem Load_none (at_ : Int) : Calls Try.prog 82 #[.pointer pa, .int .i64 at_] w fun e w' => e = .returned (.tuple #[.int .u64 0, .int .i64 1]) ∧ w = w' := by
  have H := Lib.hid h
  clear h
  go_enter Try.func82, Try.ntmps82
  go_wp2_with fail
  refine (access_none _ _ _ _ _ (H.out)).mono ?_
  rintro e w' ⟨rfl, rfl⟩
  go_wp2
  go_ret2
  exact ⟨rfl, rfl⟩
theorem Swap_none (at_ x y : Int) : Calls Try.prog 80 #[.pointer pa, .int .i64 at_, .int .u64 x, .int .u64 y] w fun e w' => e = .returned (.tuple #[.int .u64 0, .bool false, .int .i64 1]) ∧ Touch [] w w' := by
  have H := Lib.hid h
  clear h
  go_enter Try.func80, Try.ntmps80
  go_wp2_with fail
  refine (access_none _ _ _ _ _ (H.out.touch (((Touch.refl [] w).alloc _).alloc _) (by simp))).mono ?_
  rintro e w' ⟨rfl, rfl⟩
  go_wp2
  refine bodyPost_ret (v := .tuple #[.int .u64 0, .bool false, .int .i64 1]) (by simp [results, go_sem]) rfl ⟨rfl, ((Touch.refl [] w).alloc _).alloc _⟩
theorem Try_none (at_ : Int) : Calls Try.prog 83 #[.pointer pa, .int .i64 at_] w fun e w' => e = .returned (.tuple #[.bool false, .int .i64 1]) ∧ Touch [] w w' := by
  have H := Lib.hid h
  clear h
  go_enter Try.func83, Try.ntmps83
  go_wp2_with fail
  refine (Swap_none _ _ H.out _ _ _).mono ?_
  rintro e w' ⟨rfl, ht⟩
  have HT := Lib.hid ht
  clear ht
  go_wp2
  go_ret2
  exact ⟨rfl, HT.out⟩
theorem Free_none (at_ : Int) : Calls Try.prog 85 #[.pointer pa, .int .i64 at_] w fun e w' => e = .returned (.int .i64 1) ∧ Touch [] w w' := by
  have H := Lib.hid h
  clear h
  go_enter Try.func85, Try.ntmps85
  go_wp2_with fail
  refine (Swap_none _ _ H.out _ _ _).mono ?_
  rintro e w' ⟨rfl, ht⟩
  have HT := Lib.hid ht
  clear ht
  go_wp2
  go_ret
  exact ⟨rfl, HT.out⟩
end
end Go.Proofs.Ytihmbgdkllmkaaa
