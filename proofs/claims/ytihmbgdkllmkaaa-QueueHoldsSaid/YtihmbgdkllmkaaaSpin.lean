/-
  Layer 3: New, Try, Free, Held (spin.go), at the plain model: for every arena that was made by New.
-/
import Derived.Test.YtihmbgdkllmkaaaAlloc
namespace Go.Proofs.Ytihmbgdkllmkaaa
open Go.RowKit Go.Shelf
set_option maxRecDepth 100000
set_option linter.unusedVariables false

theorem wd0 : Wd 0 := by unfold Wd; omega
theorem wd1 : Wd 1 := by unfold Wd; omega

theorem doBy_err (s : Ar) (op : Nat) (at_ : Int) (chg : Nat → Nat × Bool) : (s.doBy op at_ chg).2.2 = 0 ∨ (s.doBy op at_ chg).2.2 = 4 ∧ (s.doBy op at_ chg).2.1 = Acc.zero := by
  unfold Ar.doBy
  split
  · exact .inl rfl
  · exact .inr ⟨rfl, rfl⟩

/-- Free: the arena then, an error. -/
def Ar.freeE (s : Ar) (at_ : Int) : Nat := if (s.swap at_ 1 0).2.2 = 0 then (if (s.swap at_ 1 0).2.1.did then 0 else 30) else (s.swap at_ 1 0).2.2
/-- Held: is it? -/
def Ar.heldB (s : Ar) (at_ : Int) : Bool := if (s.load at_).2.2 = 0 then (((s.load at_).2.1.old : Int) != 0) else false

section
variable (w : World) (g : Nat) (fp : List Nat) (s : Ar) (hI : IsAr w g fp s)
include hI
variable (at_ : Int) (hn : s.L.length < 4611686018427387904)
include hn
theorem Try_any : Calls Try.prog 83 #[.pointer (some ⟨g, 0, none⟩), .int .i64 at_] w fun e w' =>
    e = .returned (.tuple #[.bool (s.swap at_ 0 1).2.1.did, .int .i64 ((s.swap at_ 0 1).2.2 : Int)]) ∧ ArTo w w' g fp (s.swap at_ 0 1).1 := by
  have H := Lib.hid (Swap_any w g fp s at_ hI hn 0 1 wd0 wd1)
  clear hI hn
  go_enter Try.func83, Try.ntmps83
  go_wp2_with fail
  refine H.out.mono ?_
  rintro e w' ⟨rfl, h⟩
  have H2 := Lib.hid h
  clear h
  go_wp2
  go_ret2
  exact ⟨rfl, H2.out⟩
theorem Free_any : Calls Try.prog 85 #[.pointer (some ⟨g, 0, none⟩), .int .i64 at_] w fun e w' =>
    e = .returned (.int .i64 (s.freeE at_ : Int)) ∧ ArTo w w' g fp (s.swap at_ 1 0).1 := by
  have H := Lib.hid (Swap_any w g fp s at_ hI hn 1 0 wd1 wd0)
  clear hI hn
  have HE : Hid ((s.freeE at_ : Int) = (if (s.swap at_ 1 0).2.2 = 0 then (if (s.swap at_ 1 0).2.1.did then 0 else 30) else (s.swap at_ 1 0).2.2 : Nat)) := rfl
  rcases doBy_err s 3 at_ (chgSwap 1 0) with he | ⟨he, hz⟩
  · change (s.swap at_ 1 0).2.2 = 0 at he
    rw [he, if_pos rfl] at HE
    cases hd : (s.swap at_ 1 0).2.1.did with
    | true =>
      rw [hd, if_pos rfl] at HE
      go_enter Try.func85, Try.ntmps85
      go_wp2_with fail
      refine H.out.mono ?_
      rintro e w' ⟨rfl, h⟩
      have H2 := Lib.hid h
      clear h
      go_wp2
      go_ret
      exact ⟨by rw [HE.out]; rfl, H2.out⟩
    | false =>
      rw [hd, if_neg (by simp)] at HE
      go_enter Try.func85, Try.ntmps85
      go_wp2_with fail
      refine H.out.mono ?_
      rintro e w' ⟨rfl, h⟩
      have H2 := Lib.hid h
      clear h
      go_wp2
      go_ret
      exact ⟨by rw [HE.out]; rfl, H2.out⟩
  · change (s.swap at_ 1 0).2.2 = 4 at he
    rw [he, if_neg (by simp)] at HE
    go_enter Try.func85, Try.ntmps85
    go_wp2_with fail
    refine H.out.mono ?_
    rintro e w' ⟨rfl, h⟩
    have H2 := Lib.hid h
    clear h
    go_wp2
    go_ret
    exact ⟨by rw [HE.out]; rfl, H2.out⟩
end
end Go.Proofs.Ytihmbgdkllmkaaa
