/-
  act of law 03 (betrothallaw03/law.go): other calls; bools.
-/
import Derived.Test.YtegebecogbebaaaAct03
import Derived.BigQuiet
import Derived.Deep.QuietTactic
namespace Go.Proofs.Ytegebecogbebaaa
open Go.RowKit Go.Shelf
set_option maxRecDepth 100000
set_option linter.unusedVariables false
set_option linter.unusedSimpArgs false

set_option maxHeartbeats 4000000 in
theorem act03_none (T : List Nat) (w : World) (g : Nat) (s : Ar) (vc vl : Value) (what at_ n : Int) (h0 : (what == 0) = false) (h1 : (what == 1) = false) (h2 : (what == 2) = false) (h3 : (what == 3) = false) (h4 : (what == 4) = false) (h5 : (what == 5) = false) (h6 : (what == 6) = false) (h7 : (what == 7) = false) (h8 : (what == 8) = false) (h9 : (what == 9) = false)
    (h : Led T w w [arena g s, refT vc vl s]) :
    Calls Try.prog 39 #[.pointer (some ⟨g, 0, none⟩), refV vc s.most vl, .agg #[.int .i64 what, .int .i64 at_, .int .i64 n]] w (Acted03 T w g s) := by
  obtain ⟨hwd, _, _, _⟩ := h.artAll 0 rfl
  obtain ⟨ca, cp, rfl, _, _⟩ := own_val (h.refAt 1 rfl).cel
  obtain ⟨la, lp, rfl, _, _⟩ := own_val (h.refAt 1 rfl).log
  have HL0 := Lib.hid h
  have HW := Lib.hid hwd
  clear h hwd
  unfold refV
  go_enter Try.func39, Try.ntmps39
  go_wp2_with fail
  refine post_name ?_
  intro w2 hw2
  have HL2 := Lib.hid (HL0.out.al4 hw2)
  simp only [List.nil_append, List.cons_append] at HL2
  clear hw2
  obtain ⟨y0, y1, y2, _, _, _, _, _, _⟩ := HL2.out.c3 4 rfl
  obtain ⟨y3, _, _, _, _⟩ := HL2.out.c1 5 rfl
  refine bodyPost_ret (v := .tuple #[.agg #[.slice ca s.C.length cp, .int .i64 (s.most : Int), .slice la s.L.length lp], .bool true]) (by simp [results, Try.results39, go_sem, y0, y1, y2, y3]) rfl ?_
  exact ⟨s, _, _, _, rfl, ⟨rfl, by omega⟩, HL2.out⟩
set_option maxHeartbeats 4000000 in
theorem act03_top (T : List Nat) (w : World) (g : Nat) (s : Ar) (vc vl : Value) (n : Int) (h : Led T w w [arena g s, refT vc vl s]) :
    Calls Try.prog 39 #[.pointer (some ⟨g, 0, none⟩), refV vc s.most vl, .agg #[.int .i64 8, .int .i64 9223372036854775807, .int .i64 n]] w (Acted03 T w g s) := by
  obtain ⟨hwd, _, _, _⟩ := h.artAll 0 rfl
  obtain ⟨ca, cp, rfl, _, _⟩ := own_val (h.refAt 1 rfl).cel
  obtain ⟨la, lp, rfl, _, _⟩ := own_val (h.refAt 1 rfl).log
  have HL0 := Lib.hid h
  have HW := Lib.hid hwd
  clear h hwd
  unfold refV
  go_enter Try.func39, Try.ntmps39
  go_wp2_with fail
  refine post_name ?_
  intro w2 hw2
  have HL2 := Lib.hid (HL0.out.al4 hw2)
  simp only [List.nil_append, List.cons_append] at HL2
  clear hw2
  obtain ⟨y0, y1, y2, _, _, _, _, _, _⟩ := HL2.out.c3 4 rfl
  obtain ⟨y3, _, _, _, _⟩ := HL2.out.c1 5 rfl
  refine bodyPost_ret (v := .tuple #[.agg #[.slice ca s.C.length cp, .int .i64 (s.most : Int), .slice la s.L.length lp], .bool true]) (by simp [results, Try.results39, go_sem, y0, y1, y2, y3]) rfl ?_
  exact ⟨s, _, _, _, rfl, ⟨rfl, by omega⟩, HL2.out⟩

theorem own_at {w : World} {e : TypeId} {a : Option Addr} {n cap : Nat} {xs : List Value} (h : w.ownsRow 0 e 1 (.slice a n cap) n xs) (hn : xs.length = n) (j : Nat) (hj : j < n) : ∃ b, a = some ⟨b, 0, none⟩ ∧ w.cell? ⟨b, j, none⟩ = some (xs[j]'(by omega)) := by
  obtain ⟨g, cap', cur, hv, _⟩ := own_form h (by omega)
  injection hv with hv _ _
  subst hv
  exact ⟨g, rfl, own_cell h j (by omega)⟩
/-- bools of two rows that are the same. -/
theorem bools_same (w : World) (v1 v2 : Value) (k : Nat) (l : List Bool) (hk : l.length = k) (hk2 : k ≤ 1000000) (h1 : w.ownsRow 0 4 1 v1 k (boolVs l)) (h2 : w.ownsRow 0 4 1 v2 k (boolVs l)) :
    Calls Try.prog 72 #[v1, v2] w fun e w' => e = .returned (.bool true) ∧ Touch [] w w' := by
  obtain ⟨a1, c1, rfl, _, _⟩ := own_val h1
  obtain ⟨a2, c2, rfl, _, _⟩ := own_val h2
  have H1 := Lib.hid h1
  have H2 := Lib.hid h2
  have HK := Lib.hid hk
  clear h1 h2 hk
  go_enter Try.func72, Try.ntmps72
  go_wp2_with fail
  go_loopw [5] (fun i wr => ∃ (j : Nat), j ≤ k ∧ i = .int .i64 (j : Int) ∧ Hid (Touch [] w wr)) (fun i _ => k - (intOf i).toNat)
  case atStart => exact ⟨0, Nat.zero_le _, rfl, Touch.refl _ _⟩
  case round =>
    obtain ⟨j, hj, rfl, HT⟩ := hrel
    by_cases hlt : j < k
    · have hlt' : (j : Int) < (k : Int) := by omega
      have hj0 : (0 : Int) ≤ (j : Int) := by omega
      obtain ⟨g1, rfl, e1⟩ := own_at (own_touch H1.out HT.out (by simp)) (by simp [boolVs, HK.out]) j hlt
      obtain ⟨g2, rfl, e2⟩ := own_at (own_touch H2.out HT.out (by simp)) (by simp [boolVs, HK.out]) j hlt
      simp only [boolVs, List.getElem_map] at e1 e2
      go_wp2_with fail
      go_quiet (fail)
      go_wp2
      go_roundw
      case rel => exact ⟨j + 1, by omega, by go_num, HT.out.drewN _⟩
      case measure => simp [intOf]; omega
    · have hlt' : ¬ (j : Int) < (k : Int) := by omega
      go_wp2
      go_ret
      exact ⟨rfl, HT.out⟩
end Go.Proofs.Ytegebecogbebaaa
