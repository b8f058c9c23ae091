/-
  FlagNone (betrothallaw12/law.go): its walk: for every index and choice it returns true, and nothing that was there has turned.
-/
import Derived.Test.YtegebecogbebaaaWorks12
namespace Go.Proofs.Ytegebecogbebaaa
open Go.RowKit Go.Shelf
set_option maxRecDepth 100000
set_option linter.unusedVariables false
set_option linter.unusedSimpArgs false

section
variable (w : World) (pa : Option Addr) (h : NoAr w (.pointer pa)) (at_ : Int)
include h
theorem FlagNew_none : Calls Try.prog 41 #[.pointer pa] w fun e w' => e = .returned (.tuple #[.int .i64 0, .int .i64 1]) ∧ Touch [] w w' :=
  FlagNew_of w pa 1 (fun w' => Touch [] w w') 0 ((Alloc_none w pa h 1).mono fun e w' ⟨he, hw⟩ => ⟨he, hw ▸ Touch.refl _ _⟩) (fun _ => rfl)
theorem Claim_none : Calls Try.prog 42 #[.pointer pa, .int .i64 at_] w fun e w' => e = .returned (.tuple #[.int .i64 0, .int .i64 1]) ∧ Touch [] w w' :=
  Claim_of w pa at_ 0 1 false (fun w' => Touch [] w w') wd0 ((Swap_none _ pa (h.touch ((Touch.refl [] w).alloc _) (by simp)) at_ 0 1).mono fun e w' ⟨he, ht⟩ => ⟨he, ((Touch.refl [] w).alloc _).trans' ht⟩)
theorem Take_none : Calls Try.prog 43 #[.pointer pa, .int .i64 at_] w fun e w' => e = .returned (.tuple #[.int .i64 0, .int .i64 1]) ∧ Touch [] w w' :=
  Take_of w pa at_ 0 1 false (fun w' => Touch [] w w') wd0 ((Swap_none _ pa (h.touch ((Touch.refl [] w).alloc _) (by simp)) at_ 0 2).mono fun e w' ⟨he, ht⟩ => ⟨he, ((Touch.refl [] w).alloc _).trans' ht⟩)
theorem Look_none : Calls Try.prog 44 #[.pointer pa, .int .i64 at_] w fun e w' => e = .returned (.tuple #[.int .i64 0, .int .i64 1]) ∧ Touch [] w w' :=
  Look_of w pa at_ 0 1 (fun w' => Touch [] w w') wd0 ((Load_none _ pa (h.touch ((((Touch.refl [] w).alloc _).alloc _).alloc _) (by simp)) at_).mono fun e w' ⟨he, hw⟩ => ⟨he, hw ▸ ((((Touch.refl [] w).alloc _).alloc _).alloc _)⟩)
theorem Unclaim_none : Calls Try.prog 46 #[.pointer pa, .int .i64 at_] w fun e w' => e = .returned (.int .i64 1) ∧ Touch [] w w' :=
  Unclaim_of w pa at_ 1 (fun w' => Touch [] w w') (Store_none w pa h at_ 0)
theorem Settle_none : Calls Try.prog 47 #[.pointer pa, .int .i64 at_] w fun e w' => e = .returned (.int .i64 1) ∧ Touch [] w w' :=
  Settle_of w pa at_ 1 (fun w' => Touch [] w w') (Store_none w pa h at_ 2)
end
/-- The block of a zero arena. -/
abbrev zeroAr : Obj := .cells #[.int .u64 0, .slice none 0 0, .int .i64 0, .slice none 0 0] 66
theorem noAr_zeroAr (w : World) : NoAr (w.alloc zeroAr) (.pointer (some ⟨w.heap.size, 0, none⟩)) := .inr ⟨_, rfl, by simp⟩

set_option maxHeartbeats 2000000 in
theorem flagNone_any (at_ : Int) (zero : Bool) (w : World) : Calls Try.prog 10 #[.int .i64 at_, .bool zero] w fun e w' => e = .returned (.bool true) ∧ Below w.heap.size w w' := by
  cases zero with
  | false =>
    have HN0 : Hid (NoAr w (.pointer none)) := .inl rfl
    have HT0 := Lib.hid (Touch.refl [] w)
    go_enter Try.func10, Try.ntmps10
    go_wp2_with fail
    refine (FlagNew_none _ _ HN0.out).mono ?_
    rintro e w1 ⟨rfl, ht⟩
    have HN1 := Lib.hid (HN0.out.touch ht (by simp))
    have HT1 := Lib.hid (HT0.out.trans' ht)
    clear ht
    go_wp2_with fail
    refine (Claim_none _ _ HN1.out _).mono ?_
    rintro e w2 ⟨rfl, ht⟩
    have HN2 := Lib.hid (HN1.out.touch ht (by simp))
    have HT2 := Lib.hid (HT1.out.trans' ht)
    clear ht
    go_wp2_with fail
    refine (Take_none _ _ HN2.out _).mono ?_
    rintro e w3 ⟨rfl, ht⟩
    have HN3 := Lib.hid (HN2.out.touch ht (by simp))
    have HT3 := Lib.hid (HT2.out.trans' ht)
    clear ht
    go_wp2_with fail
    refine (Look_none _ _ HN3.out _).mono ?_
    rintro e w4 ⟨rfl, ht⟩
    have HN4 := Lib.hid (HN3.out.touch ht (by simp))
    have HT4 := Lib.hid (HT3.out.trans' ht)
    clear ht
    go_wp2_with fail
    refine (num12 _ _).mono ?_
    rintro e w' ⟨rfl, rfl⟩
    go_wp2_with fail
    refine (num12 _ _).mono ?_
    rintro e w' ⟨rfl, rfl⟩
    go_wp2_with fail
    refine (num12 _ _).mono ?_
    rintro e w' ⟨rfl, rfl⟩
    go_wp2_with fail
    refine (num12 _ _).mono ?_
    rintro e w' ⟨rfl, rfl⟩
    go_wp2_with fail
    refine (Unclaim_none _ _ HN4.out _).mono ?_
    rintro e w5 ⟨rfl, ht⟩
    have HN5 := Lib.hid (HN4.out.touch ht (by simp))
    have HT5 := Lib.hid (HT4.out.trans' ht)
    clear ht
    go_wp2_with fail
    refine (num12 _ _).mono ?_
    rintro e w' ⟨rfl, rfl⟩
    go_wp2_with fail
    refine (Settle_none _ _ HN5.out _).mono ?_
    rintro e w6 ⟨rfl, ht⟩
    have HN6 := Lib.hid (HN5.out.touch ht (by simp))
    have HT6 := Lib.hid (HT5.out.trans' ht)
    clear ht
    go_wp2_with fail
    refine (num12 _ _).mono ?_
    rintro e w' ⟨rfl, rfl⟩
    go_wp2_with fail
    refine (works12 _).mono ?_
    rintro e w7 ⟨rfl, hb⟩
    have HB := Lib.hid hb
    clear hb
    go_wp2
    go_ret
    exact ⟨rfl, HT6.out.below.trans (HB.out.mono HT6.out.size)⟩
  | true =>
    have HN0 := Lib.hid (noAr_zeroAr w)
    have HT0 := Lib.hid ((Touch.refl [] w).alloc zeroAr)
    go_enter Try.func10, Try.ntmps10
    go_wp2_with fail
    refine (FlagNew_none _ _ HN0.out).mono ?_
    rintro e w1 ⟨rfl, ht⟩
    have HN1 := Lib.hid (HN0.out.touch ht (by simp))
    have HT1 := Lib.hid (HT0.out.trans' ht)
    clear ht
    go_wp2_with fail
    refine (Claim_none _ _ HN1.out _).mono ?_
    rintro e w2 ⟨rfl, ht⟩
    have HN2 := Lib.hid (HN1.out.touch ht (by simp))
    have HT2 := Lib.hid (HT1.out.trans' ht)
    clear ht
    go_wp2_with fail
    refine (Take_none _ _ HN2.out _).mono ?_
    rintro e w3 ⟨rfl, ht⟩
    have HN3 := Lib.hid (HN2.out.touch ht (by simp))
    have HT3 := Lib.hid (HT2.out.trans' ht)
    clear ht
    go_wp2_with fail
    refine (Look_none _ _ HN3.out _).mono ?_
    rintro e w4 ⟨rfl, ht⟩
    have HN4 := Lib.hid (HN3.out.touch ht (by simp))
    have HT4 := Lib.hid (HT3.out.trans' ht)
    clear ht
    go_wp2_with fail
    refine (num12 _ _).mono ?_
    rintro e w' ⟨rfl, rfl⟩
    go_wp2_with fail
    refine (num12 _ _).mono ?_
    rintro e w' ⟨rfl, rfl⟩
    go_wp2_with fail
    refine (num12 _ _).mono ?_
    rintro e w' ⟨rfl, rfl⟩
    go_wp2_with fail
    refine (num12 _ _).mono ?_
    rintro e w' ⟨rfl, rfl⟩
    go_wp2_with fail
    refine (Unclaim_none _ _ HN4.out _).mono ?_
    rintro e w5 ⟨rfl, ht⟩
    have HN5 := Lib.hid (HN4.out.touch ht (by simp))
    have HT5 := Lib.hid (HT4.out.trans' ht)
    clear ht
    go_wp2_with fail
    refine (num12 _ _).mono ?_
    rintro e w' ⟨rfl, rfl⟩
    go_wp2_with fail
    refine (Settle_none _ _ HN5.out _).mono ?_
    rintro e w6 ⟨rfl, ht⟩
    have HN6 := Lib.hid (HN5.out.touch ht (by simp))
    have HT6 := Lib.hid (HT5.out.trans' ht)
    clear ht
    go_wp2_with fail
    refine (num12 _ _).mono ?_
    rintro e w' ⟨rfl, rfl⟩
    go_wp2_with fail
    refine (works12 _).mono ?_
    rintro e w7 ⟨rfl, hb⟩
    have HB := Lib.hid hb
    clear hb
    go_wp2
    go_ret
    exact ⟨rfl, HT6.out.below.trans (HB.out.mono HT6.out.size)⟩
end Go.Proofs.Ytegebecogbebaaa
