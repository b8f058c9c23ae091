/-
  act of law 03 (betrothallaw03/law.go), whatever is called.
-/
import Derived.Test.YtegebecogbebaaaAct03f
namespace Go.Proofs.Ytegebecogbebaaa
open Go.RowKit Go.Shelf
set_option maxRecDepth 100000
set_option linter.unusedVariables false

theorem act03 (T : List Nat) (w : World) (g : Nat) (s : Ar) (vc vl : Value) (c : Call03) (hc : c.Ok) (h20 : c.what = 7 → c.n ≤ 20) (h : Led T w w [arena g s, refT vc vl s]) (hL : s.L.length ≤ 1000000) :
    Calls Try.prog 39 #[.pointer (some ⟨g, 0, none⟩), refV vc s.most vl, .agg #[.int .i64 c.what, .int .i64 c.at_, .int .i64 c.n]] w (Acted03 T w g s) := by
  obtain ⟨what, at_, n⟩ := c
  obtain ⟨_, ha, hn⟩ := hc
  simp only at ha hn h20
  by_cases h0 : what = 0
  · subst h0; exact act03_new T w g s vc vl at_ n h hL
  by_cases h1 : what = 1
  · subst h1; exact act03_try1 T w g s vc vl at_ n h hL
  by_cases h2 : what = 2
  · subst h2; exact act03_try2 T w g s vc vl at_ n h hL
  by_cases h3 : what = 3
  · subst h3; exact act03_try3 T w g s vc vl at_ n h hL
  by_cases h4 : what = 4
  · subst h4; exact act03_free4 T w g s vc vl at_ n h hL
  by_cases h5 : what = 5
  · subst h5; exact act03_free5 T w g s vc vl at_ n h hL
  by_cases h6 : what = 6
  · subst h6; exact act03_held T w g s vc vl at_ n h hL
  by_cases h7 : what = 7
  · subst h7; exact (callsIn_wide (n := 0)).1 (act03_tries_in 0 T w g s vc vl at_ n (h20 rfl) h hL)
  by_cases h8 : what = 8
  · subst h8
    by_cases hm : at_ = 9223372036854775807
    · subst hm; exact act03_top T w g s vc vl n h
    · by_cases hin : ∀ j, j < 2 → inR s (([at_, at_ + 1] : List Int).getD j 0)
      · exact act03_states_in T w g s vc vl at_ n ha hm hin h hL
      · exact act03_states_out T w g s vc vl at_ n ha hm hin h hL
  by_cases h9 : what = 9
  · subst h9
    have hw : 0 ≤ IntKind.u64.wrap n ∧ IntKind.u64.wrap n < 18446744073709551616 := by rw [IntKind.wrap_u64]; omega
    obtain ⟨m, hm⟩ := Int.eq_ofNat_of_zero_le hw.1
    exact act03_store T w g s vc vl at_ n m hm (by unfold Wd; show m < 18446744073709551616; omega) h hL
  exact act03_none T w g s vc vl what at_ n (by simpa using h0) (by simpa using h1) (by simpa using h2) (by simpa using h3) (by simpa using h4) (by simpa using h5) (by simpa using h6) (by simpa using h7) (by simpa using h8) (by simpa using h9) h
end Go.Proofs.Ytegebecogbebaaa
