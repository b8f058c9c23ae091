/-
  Layer 12 (flag.go): New, Claim, Unclaim, Take, Settle, Look, each by what one access tells and leaves (R).
-/
import Derived.Test.YtegebecogbebaaaCopy
import Derived.Test.YtegebecogbebaaaNone
import Derived.Test.YtegebecogbebaaaGoto
namespace Go.Proofs.Ytegebecogbebaaa
open Go.RowKit Go.Shelf
set_option maxRecDepth 100000
set_option linter.unusedVariables false
set_option linter.unusedSimpArgs false

/-- What a flag's access tells: what the flag held, an error. -/
def flagV (v er : Nat) : Nat × Nat := if er ≠ 0 then (0, er) else if 2 < v then (0, 120) else (v, 0)

section
variable (w : World) (p : Option Addr) (at_ : Int) (v er : Nat) (d : Bool) (R : World → Prop)
theorem swapM (to : Nat) (hto : to ≤ 2) (h : Calls Try.prog 24 #[.pointer p, .int .i64 at_, .int .u64 0, .int .u64 (to : Int)] (w.alloc (.cells #[.pointer p] 132)) fun e w' => e = .returned (.tuple #[.int .u64 (v : Int), .bool d, .int .i64 (er : Int)]) ∧ R w') :
    Calls Try.prog 76 #[.agg #[.pointer p], .int .i64 at_, .int .i64 (to : Int)] w fun e w' => e = .returned (.tuple #[.int .u64 (v : Int), .int .i64 (er : Int)]) ∧ R w' := by
  have H := Lib.hid h
  have hc : IntKind.u64.wrap (to : Int) = (to : Int) := by rw [IntKind.wrap_u64]; omega
  clear h
  go_enter Try.func76, Try.ntmps76
  go_wp2_with fail
  refine H.out.mono ?_
  rintro e w' ⟨rfl, h⟩
  have H2 := Lib.hid h
  clear h
  go_wp2
  go_ret2
  exact ⟨rfl, H2.out⟩
theorem loadM (h : Calls Try.prog 22 #[.pointer p, .int .i64 at_] ((w.alloc (.cells #[.pointer p] 132)).alloc (.cells #[] 134)) fun e w' => e = .returned (.tuple #[.int .u64 (v : Int), .int .i64 (er : Int)]) ∧ R w') :
    Calls Try.prog 78 #[.agg #[.pointer p], .int .i64 at_, .agg #[]] w fun e w' => e = .returned (.tuple #[.int .u64 (v : Int), .int .i64 (er : Int)]) ∧ R w' := by
  have H := Lib.hid h
  clear h
  go_enter Try.func78, Try.ntmps78
  go_wp2_with fail
  refine H.out.mono ?_
  rintro e w' ⟨rfl, h⟩
  have H2 := Lib.hid h
  clear h
  go_wp2
  go_ret2
  exact ⟨rfl, H2.out⟩
theorem step75 (to : Nat) (hv : Wd v) (h : Calls Try.prog 76 #[.agg #[.pointer p], .int .i64 at_, .int .i64 (to : Int)] w fun e w' => e = .returned (.tuple #[.int .u64 (v : Int), .int .i64 (er : Int)]) ∧ R w') :
    Calls Try.prog 75 #[.func (.func 76) #[.agg #[.pointer p]] #[], .int .i64 at_, .int .i64 (to : Int)] w fun e w' => e = .returned (.tuple #[.int .i64 ((flagV v er).1 : Int), .int .i64 ((flagV v er).2 : Int)]) ∧ R w' := by
  have H := Lib.hid h
  have eg := enters_of Try.func76 (by kernel_rfl) rfl
  clear h
  go_enter Try.func75, Try.ntmps75
  go_wp2
  refine wp_scope_fwd 0 rfl ?_
  by_cases he : er = 0
  · subst he
    by_cases h2 : 2 < v
    · have HF : Hid (flagV v 0 = (0, 120)) := by simp [Hid, flagV, h2]
      have h2' : (2 : Int) < (v : Int) := by omega
      go_wp2_with fail
      refine H.out.mono ?_
      rintro e w' ⟨rfl, h⟩
      have H2 := Lib.hid h
      clear h
      go_wp2
      go_step3
      refine ⟨rfl, ?_⟩
      go_wp2
      refine noGoto_ret' ?_
      go_ret2
      exact ⟨by rw [HF.out]; rfl, H2.out⟩
    · have HF : Hid (flagV v 0 = (v, 0)) := by simp [Hid, flagV, h2]
      have h2' : ¬ (2 : Int) < (v : Int) := by omega
      have hc : IntKind.i64.wrap (v : Int) = (v : Int) := IntWalk.i64_in _ (by omega)
      go_wp2_with fail
      refine H.out.mono ?_
      rintro e w' ⟨rfl, h⟩
      have H2 := Lib.hid h
      clear h
      go_wp2
      go_step3
      go_wp2
      refine jump_ret ?_
      go_ret2
      exact ⟨by rw [HF.out]; rfl, H2.out⟩
  · have HF : Hid (flagV v er = (0, er)) := by simp [Hid, flagV, he]
    have he' : ((er : Int) != 0) = true := by simp; omega
    go_wp2_with fail
    refine H.out.mono ?_
    rintro e w' ⟨rfl, h⟩
    have H2 := Lib.hid h
    clear h
    go_wp2
    go_step3
    refine ⟨rfl, ?_⟩
    go_wp2
    refine noGoto_ret' ?_
    go_ret2
    exact ⟨by rw [HF.out]; rfl, H2.out⟩
theorem step77 (hv : Wd v) (h : Calls Try.prog 78 #[.agg #[.pointer p], .int .i64 at_, .agg #[]] (w.alloc (.cells #[] 134)) fun e w' => e = .returned (.tuple #[.int .u64 (v : Int), .int .i64 (er : Int)]) ∧ R w') :
    Calls Try.prog 77 #[.func (.func 78) #[.agg #[.pointer p]] #[], .int .i64 at_, .agg #[]] w fun e w' => e = .returned (.tuple #[.int .i64 ((flagV v er).1 : Int), .int .i64 ((flagV v er).2 : Int)]) ∧ R w' := by
  have H := Lib.hid h
  have eg := enters_of Try.func78 (by kernel_rfl) rfl
  clear h
  go_enter Try.func77, Try.ntmps77
  go_wp2
  refine wp_scope_fwd 0 rfl ?_
  by_cases he : er = 0
  · subst he
    by_cases h2 : 2 < v
    · have HF : Hid (flagV v 0 = (0, 120)) := by simp [Hid, flagV, h2]
      have h2' : (2 : Int) < (v : Int) := by omega
      go_wp2_with fail
      refine H.out.mono ?_
      rintro e w' ⟨rfl, h⟩
      have H2 := Lib.hid h
      clear h
      go_wp2
      go_step3
      refine ⟨rfl, ?_⟩
      go_wp2
      refine noGoto_ret' ?_
      go_ret2
      exact ⟨by rw [HF.out]; rfl, H2.out⟩
    · have HF : Hid (flagV v 0 = (v, 0)) := by simp [Hid, flagV, h2]
      have h2' : ¬ (2 : Int) < (v : Int) := by omega
      have hc : IntKind.i64.wrap (v : Int) = (v : Int) := IntWalk.i64_in _ (by omega)
      go_wp2_with fail
      refine H.out.mono ?_
      rintro e w' ⟨rfl, h⟩
      have H2 := Lib.hid h
      clear h
      go_wp2
      go_step3
      go_wp2
      refine jump_ret ?_
      go_ret2
      exact ⟨by rw [HF.out]; rfl, H2.out⟩
  · have HF : Hid (flagV v er = (0, er)) := by simp [Hid, flagV, he]
    have he' : ((er : Int) != 0) = true := by simp; omega
    go_wp2_with fail
    refine H.out.mono ?_
    rintro e w' ⟨rfl, h⟩
    have H2 := Lib.hid h
    clear h
    go_wp2
    go_step3
    refine ⟨rfl, ?_⟩
    go_wp2
    refine noGoto_ret' ?_
    go_ret2
    exact ⟨by rw [HF.out]; rfl, H2.out⟩
theorem Claim_of (hv : Wd v) (h : Calls Try.prog 24 #[.pointer p, .int .i64 at_, .int .u64 0, .int .u64 ((1 : Nat) : Int)] (w.alloc (.cells #[.pointer p] 132)) fun e w' => e = .returned (.tuple #[.int .u64 (v : Int), .bool d, .int .i64 (er : Int)]) ∧ R w') :
    Calls Try.prog 42 #[.pointer p, .int .i64 at_] w fun e w' => e = .returned (.tuple #[.int .i64 ((flagV v er).1 : Int), .int .i64 ((flagV v er).2 : Int)]) ∧ R w' := by
  have H := Lib.hid (step75 w p at_ v er R 1 hv (swapM w p at_ v er d R 1 (by omega) h))
  clear h
  go_enter Try.func42, Try.ntmps42
  go_wp2_with fail
  refine H.out.mono ?_
  rintro e w' ⟨rfl, h⟩
  have H2 := Lib.hid h
  clear h
  go_wp2
  go_ret2
  exact ⟨rfl, H2.out⟩
theorem Take_of (hv : Wd v) (h : Calls Try.prog 24 #[.pointer p, .int .i64 at_, .int .u64 0, .int .u64 ((2 : Nat) : Int)] (w.alloc (.cells #[.pointer p] 132)) fun e w' => e = .returned (.tuple #[.int .u64 (v : Int), .bool d, .int .i64 (er : Int)]) ∧ R w') :
    Calls Try.prog 43 #[.pointer p, .int .i64 at_] w fun e w' => e = .returned (.tuple #[.int .i64 ((flagV v er).1 : Int), .int .i64 ((flagV v er).2 : Int)]) ∧ R w' := by
  have H := Lib.hid (step75 w p at_ v er R 2 hv (swapM w p at_ v er d R 2 (by omega) h))
  clear h
  go_enter Try.func43, Try.ntmps43
  go_wp2_with fail
  refine H.out.mono ?_
  rintro e w' ⟨rfl, h⟩
  have H2 := Lib.hid h
  clear h
  go_wp2
  go_ret2
  exact ⟨rfl, H2.out⟩
theorem Look_of (hv : Wd v) (h : Calls Try.prog 22 #[.pointer p, .int .i64 at_] (((w.alloc (.cells #[] 134)).alloc (.cells #[.pointer p] 132)).alloc (.cells #[] 134)) fun e w' => e = .returned (.tuple #[.int .u64 (v : Int), .int .i64 (er : Int)]) ∧ R w') :
    Calls Try.prog 44 #[.pointer p, .int .i64 at_] w fun e w' => e = .returned (.tuple #[.int .i64 ((flagV v er).1 : Int), .int .i64 ((flagV v er).2 : Int)]) ∧ R w' := by
  have H := Lib.hid (step77 w p at_ v er R hv (loadM _ p at_ v er R h))
  clear h
  go_enter Try.func44, Try.ntmps44
  go_wp2_with fail
  refine H.out.mono ?_
  rintro e w' ⟨rfl, h⟩
  have H2 := Lib.hid h
  clear h
  go_wp2
  go_ret2
  exact ⟨rfl, H2.out⟩
theorem Unclaim_of (h : Calls Try.prog 23 #[.pointer p, .int .i64 at_, .int .u64 ((0 : Nat) : Int)] w fun e w' => e = .returned (.int .i64 (er : Int)) ∧ R w') :
    Calls Try.prog 46 #[.pointer p, .int .i64 at_] w fun e w' => e = .returned (.int .i64 (er : Int)) ∧ R w' := by
  have H := Lib.hid h
  clear h
  go_enter Try.func46, Try.ntmps46
  go_wp2_with fail
  refine H.out.mono ?_
  rintro e w' ⟨rfl, h⟩
  have H2 := Lib.hid h
  clear h
  go_wp2
  go_ret
  exact ⟨rfl, H2.out⟩
theorem Settle_of (h : Calls Try.prog 23 #[.pointer p, .int .i64 at_, .int .u64 ((2 : Nat) : Int)] w fun e w' => e = .returned (.int .i64 (er : Int)) ∧ R w') :
    Calls Try.prog 47 #[.pointer p, .int .i64 at_] w fun e w' => e = .returned (.int .i64 (er : Int)) ∧ R w' := by
  have H := Lib.hid h
  clear h
  go_enter Try.func47, Try.ntmps47
  go_wp2_with fail
  refine H.out.mono ?_
  rintro e w' ⟨rfl, h⟩
  have H2 := Lib.hid h
  clear h
  go_wp2
  go_ret
  exact ⟨rfl, H2.out⟩
/-- New: a place, or 0 and an error. -/
theorem FlagNew_of (pl : Nat) (h : Calls Try.prog 21 #[.pointer p, .int .i64 1] w fun e w' => e = .returned (.tuple #[.int .i64 (pl : Int), .int .i64 (er : Int)]) ∧ R w') (hp : er ≠ 0 → pl = 0) :
    Calls Try.prog 41 #[.pointer p] w fun e w' => e = .returned (.tuple #[.int .i64 (pl : Int), .int .i64 (er : Int)]) ∧ R w' := by
  have H := Lib.hid h
  clear h
  go_enter Try.func41, Try.ntmps41
  go_wp2
  refine wp_scope_fwd 0 rfl ?_
  by_cases he : er = 0
  · subst he
    go_wp2_with fail
    refine H.out.mono ?_
    rintro e w' ⟨rfl, h⟩
    have H2 := Lib.hid h
    clear h
    go_wp2
    refine jump_ret ?_
    go_ret2
    exact ⟨rfl, H2.out⟩
  · have he' : ((er : Int) != 0) = true := by simp; omega
    obtain rfl := hp he
    go_wp2_with fail
    refine H.out.mono ?_
    rintro e w' ⟨rfl, h⟩
    have H2 := Lib.hid h
    clear h
    go_wp2
    go_step3
    refine ⟨rfl, ?_⟩
    go_wp2
    refine noGoto_ret' ?_
    go_ret2
    exact ⟨rfl, H2.out⟩
end
end Go.Proofs.Ytegebecogbebaaa
