/-
  Texts 5 of 5 that CondCopies rests on, laid together by program: Is15, Range2, SameC, SameD, OpenV, Open15, CondCopiesW.
-/
import Derived.Test.YtihmbgdkllmkaaaCc1
import Derived.Test.YtihmbgdkllmkaaaCc2
import Derived.Test.YtihmbgdkllmkaaaCc3
import Derived.Test.YtihmbgdkllmkaaaCc4
import Derived.Test.YtihmbgdkllmkaaaRows
import Derived.Deep.Slices
import Derived.Deep.Fields
import Derived.ChangeSame
import Derived.ProofKit
import Derived.OpenShut
import Derived.Deep.Cut
/-
  is() of law 15 (betrothallaw15/law.go).
-/
namespace Go.Proofs.Ytihmbgdkllmkaaa
open Go.RowKit Go.Shelf
set_option maxRecDepth 100000
set_option linter.unusedVariables false
set_option linter.unusedSimpArgs false
set_option maxHeartbeats 4000000 in
theorem is15 (T : List Nat) (w : World) (P : World → Prop) (c q bx g : Nat) (es rs : List ME) (a : Option Addr) (cap : Nat) (s : Ar) (vc vl : Value) (N many : Nat) (h : Led T w w (L15 c q es P bx g s vc vl a rs.length cap)) (hB : Both13 P es rs a cap) (hs : Two s N) (hN : N < 1000000) (hm : many ≤ 10000) :
    Calls Try.prog 53 #[.pointer (some ⟨bx, 0, none⟩), .int .i64 (many : Int)] w fun e w' => e = .returned (.bool true) ∧ Touch [] w w' := by
  obtain ⟨ca, cp, rfl, _, _⟩ := own_val (h.refAt 5 rfl).cel
  obtain ⟨la, lp, rfl, _, _⟩ := own_val (h.refAt 5 rfl).log
  have HNL : Hid (s.L.length < 1000000) := by obtain ⟨A, B, L, rfl, _, _, hL⟩ := hs; exact (by simpa [twoC, Hid] using Nat.lt_of_le_of_lt hL hN)
  have hnl0 : (0 : Int) ≤ (s.L.length : Int) := by omega
  have hnl1 : (s.L.length : Int) < 18446744073709551616 := by have := HNL.out; omega
  have HEL := Lib.hid hB.len
  have HB := Lib.hid hB
  have HM := Lib.hid hm
  have HL0 := Lib.hid (fun W (hW : Touch [] w W) => h.touch hW)
  clear h hB hs hm
  simp only [L15, condL, bothC, List.cons_append, List.nil_append] at HL0
  have HPW := Lib.hid (fun W (hW : Touch [] w W) => HB.out.2.2.2.2 W ((HL0.out W hW).still 2 rfl))
  obtain ⟨y0, y1, y2, y3, y4, y5, y6, _, hlx, _, _⟩ := (HL0.out w (Touch.refl [] w)).c7 3 rfl
  go_enter Try.func53, Try.ntmps53
  go_wp2_with fail
  refine (Cells_c _ _ _ _ _ ((HL0.out w (Touch.refl [] w)).condAt 0 rfl)).mono ?_
  rintro e w1 ⟨rfl, ht⟩
  have HTm := Lib.hid ht.drew
  clear y0 y1 y2 y3 y4 y5 y6 hlx
  obtain ⟨y0, y1, y2, y3, y4, y5, y6, _, hlx, _, _⟩ := (HL0.out w1 ht).c7 3 rfl
  clear ht
  go_wp2_with fail
  refine wp_region_held_drew (S := fun w' => w'.cell? ⟨bx, 0, none⟩ = some (.pointer (some ⟨g, 0, none⟩)) ∧ w'.cell? ⟨bx, 1, none⟩ = some (.pointer (some ⟨c, 0, none⟩)) ∧ w'.cell? ⟨bx, 4, none⟩ = some (.slice la s.L.length lp) ∧ w'.cell? ⟨bx, 5, none⟩ = some (.int .i64 0) ∧ w'.cell? ⟨bx, 6, none⟩ = some (.slice a rs.length cap)) (by kernel_rfl) ?_ (fun hHeld => ?_)
  · (try dsimp only)
    go_keep
  refine wpAnyH_takeD (i := 0) (d := some 15) (v := ?_) rfl rfl (by kernel_rfl) (by kernel_rfl) (by kernel_rfl) (fun _ _ _ h => h) (Or.inl ⟨by rfl, ?_⟩) (by assumption) ?_
  rotate_left
  · intro w hSw
    (try dsimp only at hSw)
    first | (go_simp; done) | (go_simp; with_reducible rfl)
  (try simp only [Act.put, List.setIfInBounds_toArray, List.set_cons_zero, List.set_cons_succ])
  refine wpAnyH_takeD (i := 1) (d := some 16) (v := ?_) rfl rfl (by kernel_rfl) (by kernel_rfl) (by kernel_rfl) (fun _ _ _ h => h) (Or.inl ⟨by rfl, ?_⟩) (by assumption) ?_
  rotate_left
  · intro w hSw
    (try dsimp only at hSw)
    first | (go_simp; done) | (go_simp; with_reducible rfl)
  (try simp only [Act.put, List.setIfInBounds_toArray, List.set_cons_zero, List.set_cons_succ])
  refine wpAnyH_takeD (i := 2) (d := some 17) (v := ?_) rfl rfl (by kernel_rfl) (by kernel_rfl) (by kernel_rfl) (fun _ _ _ h => h) (Or.inl ⟨by rfl, ?_⟩) (by assumption) ?_
  rotate_left
  · intro w hSw
    (try dsimp only at hSw)
    first | (go_simp; done) | (go_simp; with_reducible rfl)
  (try simp only [Act.put, List.setIfInBounds_toArray, List.set_cons_zero, List.set_cons_succ])
  refine wpAnyH_takeD (i := 3) (d := some 18) (v := ?_) rfl rfl (by kernel_rfl) (by kernel_rfl) (by kernel_rfl) (fun _ _ _ h => h) (Or.inl ⟨by rfl, ?_⟩) (by assumption) ?_
  rotate_left
  · intro w hSw
    (try dsimp only at hSw)
    first | (go_simp; done) | (go_simp; with_reducible rfl)
  (try simp only [Act.put, List.setIfInBounds_toArray, List.set_cons_zero, List.set_cons_succ])
  refine wpAnyH_takeD (i := 4) (d := some 19) (v := ?_) rfl rfl (by kernel_rfl) (by kernel_rfl) (by kernel_rfl) (fun _ _ _ h => h) (Or.inl ⟨by rfl, ?_⟩) (by assumption) ?_
  rotate_left
  · intro w hSw
    (try dsimp only at hSw)
    first | (go_simp; done) | (go_simp; with_reducible rfl)
  (try simp only [Act.put, List.setIfInBounds_toArray, List.set_cons_zero, List.set_cons_succ])
  refine wpAnyH_takeD (i := 5) (d := some 20) (v := ?_) rfl rfl (by kernel_rfl) (by kernel_rfl) (by kernel_rfl) (fun _ _ _ h => h) (Or.inl ⟨by rfl, ?_⟩) (by assumption) ?_
  rotate_left
  · intro w hSw
    (try dsimp only at hSw)
    first | (go_simp; done) | (go_simp; with_reducible rfl)
  (try simp only [Act.put, List.setIfInBounds_toArray, List.set_cons_zero, List.set_cons_succ])
  refine wpAnyH_takeD (i := 6) (d := some 21) (v := ?_) rfl rfl (by kernel_rfl) (by kernel_rfl) (by kernel_rfl) (fun _ _ _ h => h) (Or.inl ⟨by rfl, ?_⟩) (by assumption) ?_
  rotate_left
  · intro w hSw
    (try dsimp only at hSw)
    first | (go_simp; done) | (go_simp; with_reducible rfl)
  (try simp only [Act.put, List.setIfInBounds_toArray, List.set_cons_zero, List.set_cons_succ])
  refine wpAnyH_takeD (i := 7) (d := some 22) (v := ?_) rfl rfl (by kernel_rfl) (by kernel_rfl) (by kernel_rfl) (fun _ _ _ h => h) (Or.inl ⟨by rfl, ?_⟩) (by assumption) ?_
  rotate_left
  · intro w hSw
    (try dsimp only at hSw)
    first | (go_simp; done) | (go_simp; with_reducible rfl)
  (try simp only [Act.put, List.setIfInBounds_toArray, List.set_cons_zero, List.set_cons_succ])
  refine wpAnyH_takeD (i := 8) (d := some 23) (v := ?_) rfl rfl (by kernel_rfl) (by kernel_rfl) (by kernel_rfl) (fun _ _ _ h => h) (Or.inl ⟨by rfl, ?_⟩) (by assumption) ?_
  rotate_left
  · intro w hSw
    (try dsimp only at hSw)
    first | (go_simp; done) | (go_simp; with_reducible rfl)
  (try simp only [Act.put, List.setIfInBounds_toArray, List.set_cons_zero, List.set_cons_succ])
  refine wpAnyH_takeD (i := 9) (d := some 24) (v := ?_) rfl rfl (by kernel_rfl) (by kernel_rfl) (by kernel_rfl) (fun _ _ _ h => h) (Or.inl ⟨by rfl, ?_⟩) (by assumption) ?_
  rotate_left
  · intro w hSw
    (try dsimp only at hSw)
    first | (go_simp; done) | (go_simp; with_reducible rfl)
  (try simp only [Act.put, List.setIfInBounds_toArray, List.set_cons_zero, List.set_cons_succ])
  refine wpAnyH_takeD (i := 10) (d := some 25) (v := ?_) rfl rfl (by kernel_rfl) (by kernel_rfl) (by kernel_rfl) (fun _ _ _ h => h) (Or.inl ⟨by rfl, ?_⟩) (by assumption) ?_
  rotate_left
  · intro w hSw
    (try dsimp only at hSw)
    first | (go_simp; done) | (go_simp; with_reducible rfl)
  (try simp only [Act.put, List.setIfInBounds_toArray, List.set_cons_zero, List.set_cons_succ])
  refine wpAnyH_takeD (i := 11) (d := some 26) (v := ?_) rfl rfl (by kernel_rfl) (by kernel_rfl) (by kernel_rfl) (fun _ _ _ h => h) (Or.inl ⟨by rfl, ?_⟩) (by assumption) ?_
  rotate_left
  · intro w hSw
    (try dsimp only at hSw)
    first | (go_simp; done) | (go_simp; with_reducible rfl)
  (try simp only [Act.put, List.setIfInBounds_toArray, List.set_cons_zero, List.set_cons_succ])
  refine wpAnyH_takeD (i := 12) (d := some 27) (v := ?_) rfl rfl (by kernel_rfl) (by kernel_rfl) (by kernel_rfl) (fun _ _ _ h => h) (Or.inl ⟨by rfl, ?_⟩) (by assumption) ?_
  rotate_left
  · intro w hSw
    (try dsimp only at hSw)
    first | (go_simp; done) | (go_simp; with_reducible rfl)
  (try simp only [Act.put, List.setIfInBounds_toArray, List.set_cons_zero, List.set_cons_succ])
  refine wpAnyH_takeD (i := 13) (d := some 28) (v := ?_) rfl rfl (by kernel_rfl) (by kernel_rfl) (by kernel_rfl) (fun _ _ _ h => h) (Or.inl ⟨by rfl, ?_⟩) (by assumption) ?_
  rotate_left
  · intro w hSw
    (try dsimp only at hSw)
    first | (go_simp; done) | (go_simp; with_reducible rfl)
  (try simp only [Act.put, List.setIfInBounds_toArray, List.set_cons_zero, List.set_cons_succ])
  refine wpAnyH_takeD (i := 14) (d := some 29) (v := ?_) rfl rfl (by kernel_rfl) (by kernel_rfl) (by kernel_rfl) (fun _ _ _ h => h) (Or.inl ⟨by rfl, ?_⟩) (by assumption) ?_
  rotate_left
  · intro w hSw
    (try dsimp only at hSw)
    first | (go_simp; done) | (go_simp; with_reducible rfl)
  (try simp only [Act.put, List.setIfInBounds_toArray, List.set_cons_zero, List.set_cons_succ])
  refine wpAnyH_takeD (i := 15) (d := some 30) (v := ?_) rfl rfl (by kernel_rfl) (by kernel_rfl) (by kernel_rfl) (fun _ _ _ h => h) (Or.inl ⟨by rfl, ?_⟩) (by assumption) ?_
  rotate_left
  · intro w hSw
    (try dsimp only at hSw)
    first | (go_simp; done) | (go_simp; with_reducible rfl)
  (try simp only [Act.put, List.setIfInBounds_toArray, List.set_cons_zero, List.set_cons_succ])
  refine wpAnyH_takeD (i := 16) (d := some 31) (v := ?_) rfl rfl (by kernel_rfl) (by kernel_rfl) (by kernel_rfl) (fun _ _ _ h => h) (Or.inl ⟨by rfl, ?_⟩) (by assumption) ?_
  rotate_left
  · intro w hSw
    (try dsimp only at hSw)
    first | (go_simp; done) | (go_simp; with_reducible rfl)
  (try simp only [Act.put, List.setIfInBounds_toArray, List.set_cons_zero, List.set_cons_succ])
  refine wpAnyH_takeD (i := 17) (d := some 32) (v := ?_) rfl rfl (by kernel_rfl) (by kernel_rfl) (by kernel_rfl) (fun _ _ _ h => h) (Or.inl ⟨by rfl, ?_⟩) (by assumption) ?_
  rotate_left
  · intro w hSw
    (try dsimp only at hSw)
    first | (go_simp; done) | (go_simp; with_reducible rfl)
  (try simp only [Act.put, List.setIfInBounds_toArray, List.set_cons_zero, List.set_cons_succ])
  refine wpAnyH_takeD (i := 18) (d := some 33) (v := ?_) rfl rfl (by kernel_rfl) (by kernel_rfl) (by kernel_rfl) (fun _ _ _ h => h) (Or.inl ⟨by rfl, ?_⟩) (by assumption) ?_
  rotate_left
  · intro w hSw
    (try dsimp only at hSw)
    first | (go_simp; done) | (go_simp; with_reducible rfl)
  (try simp only [Act.put, List.setIfInBounds_toArray, List.set_cons_zero, List.set_cons_succ])
  refine wpAnyH_takeD (i := 19) (d := some 34) (v := ?_) rfl rfl (by kernel_rfl) (by kernel_rfl) (by kernel_rfl) (fun _ _ _ h => h) (Or.inl ⟨by rfl, ?_⟩) (by assumption) ?_
  rotate_left
  · intro w hSw
    (try dsimp only at hSw)
    first | (go_simp; done) | (go_simp; with_reducible rfl)
  (try simp only [Act.put, List.setIfInBounds_toArray, List.set_cons_zero, List.set_cons_succ])
  refine wpAnyH_takeD (i := 20) (d := some 35) (v := ?_) rfl rfl (by kernel_rfl) (by kernel_rfl) (by kernel_rfl) (fun _ _ _ h => h) (Or.inl ⟨by rfl, ?_⟩) (by assumption) ?_
  rotate_left
  · intro w hSw
    (try dsimp only at hSw)
    first | (go_simp; done) | (go_simp; with_reducible rfl)
  (try simp only [Act.put, List.setIfInBounds_toArray, List.set_cons_zero, List.set_cons_succ])
  refine wpAnyH_takeD (i := 21) (d := some 36) (v := ?_) rfl rfl (by kernel_rfl) (by kernel_rfl) (by kernel_rfl) (fun _ _ _ h => h) (Or.inl ⟨by rfl, ?_⟩) (by assumption) ?_
  rotate_left
  · intro w hSw
    (try dsimp only at hSw)
    first | (go_simp; done) | (go_simp; with_reducible rfl)
  (try simp only [Act.put, List.setIfInBounds_toArray, List.set_cons_zero, List.set_cons_succ])
  refine wpAnyH_takeD (i := 23) (d := some 38) (v := ?_) rfl rfl (by kernel_rfl) (by kernel_rfl) (by kernel_rfl) (fun _ _ _ h => h) (Or.inl ⟨by rfl, ?_⟩) (by assumption) ?_
  rotate_left
  · intro w hSw
    (try dsimp only at hSw)
    first | (go_simp; done) | (go_simp; with_reducible rfl)
  (try simp only [Act.put, List.setIfInBounds_toArray, List.set_cons_zero, List.set_cons_succ])
  refine wpAnyH_takeD (i := 24) (d := some 39) (v := ?_) rfl rfl (by kernel_rfl) (by kernel_rfl) (by kernel_rfl) (fun _ _ _ h => h) (Or.inl ⟨by rfl, ?_⟩) (by assumption) ?_
  rotate_left
  · intro w hSw
    (try dsimp only at hSw)
    first | (go_simp; done) | (go_simp; with_reducible rfl)
  (try simp only [Act.put, List.setIfInBounds_toArray, List.set_cons_zero, List.set_cons_succ])
  refine wpAnyH_takeD (i := 25) (d := some 40) (v := ?_) rfl rfl (by kernel_rfl) (by kernel_rfl) (by kernel_rfl) (fun _ _ _ h => h) (Or.inl ⟨by rfl, ?_⟩) (by assumption) ?_
  rotate_left
  · intro w hSw
    (try dsimp only at hSw)
    first | (go_simp; done) | (go_simp; with_reducible rfl)
  (try simp only [Act.put, List.setIfInBounds_toArray, List.set_cons_zero, List.set_cons_succ])
  refine wpAnyH_takeD (i := 26) (d := some 41) (v := ?_) rfl rfl (by kernel_rfl) (by kernel_rfl) (by kernel_rfl) (fun _ _ _ h => h) (Or.inl ⟨by rfl, ?_⟩) (by assumption) ?_
  rotate_left
  · intro w hSw
    (try dsimp only at hSw)
    first | (go_simp; done) | (go_simp; with_reducible rfl)
  (try simp only [Act.put, List.setIfInBounds_toArray, List.set_cons_zero, List.set_cons_succ])
  refine wpAnyH_takeD (i := 27) (d := some 42) (v := ?_) rfl rfl (by kernel_rfl) (by kernel_rfl) (by kernel_rfl) (fun _ _ _ h => h) (Or.inl ⟨by rfl, ?_⟩) (by assumption) ?_
  rotate_left
  · intro w hSw
    (try dsimp only at hSw)
    first | (go_simp; done) | (go_simp; with_reducible rfl)
  (try simp only [Act.put, List.setIfInBounds_toArray, List.set_cons_zero, List.set_cons_succ])
  refine wpAnyH_takeD (i := 28) (d := some 43) (v := ?_) rfl rfl (by kernel_rfl) (by kernel_rfl) (by kernel_rfl) (fun _ _ _ h => h) (Or.inl ⟨by rfl, ?_⟩) (by assumption) ?_
  rotate_left
  · intro w hSw
    (try dsimp only at hSw)
    first | (go_simp; done) | (go_simp; with_reducible rfl)
  (try simp only [Act.put, List.setIfInBounds_toArray, List.set_cons_zero, List.set_cons_succ])
  refine wpAnyH_takeD (i := 29) (d := some 44) (v := ?_) rfl rfl (by kernel_rfl) (by kernel_rfl) (by kernel_rfl) (fun _ _ _ h => h) (Or.inl ⟨by rfl, ?_⟩) (by assumption) ?_
  rotate_left
  · intro w hSw
    (try dsimp only at hSw)
    first | (go_simp; done) | (go_simp; with_reducible rfl)
  (try simp only [Act.put, List.setIfInBounds_toArray, List.set_cons_zero, List.set_cons_succ])
  refine wpAnyH_ready (rs := [22]) (by kernel_rfl) (by simp) ?_
  refine AllReadyH.cons rfl (fun K hK => ?_) AllReadyH.nil
  go_simp
  refine ((HL0.out _ HTm.out).cLen 1 0 rfl rfl).mono ?_
  rintro e wn ⟨rfl, rfl⟩
  rw [HEL.out]
  go_simp
  refine hK.out _ _ ?_ (fun hHeld => ?_)
  · (try dsimp only)
    go_keep
  clear hK K
  (try simp only [Act.put, List.setIfInBounds_toArray, List.set_cons_zero, List.set_cons_succ])
  refine wpAnyH_takeD (i := 30) (d := some 45) (v := ?_) rfl rfl (by kernel_rfl) (by kernel_rfl) (by kernel_rfl) (fun _ _ _ h => h) (Or.inl ⟨by rfl, ?_⟩) (by assumption) ?_
  rotate_left
  · intro w hSw
    (try dsimp only at hSw)
    first | (go_simp; done) | (go_simp; with_reducible rfl)
  (try simp only [Act.put, List.setIfInBounds_toArray, List.set_cons_zero, List.set_cons_succ])
  refine wpAnyH_takeD (i := 31) (d := some 46) (v := ?_) rfl rfl (by kernel_rfl) (by kernel_rfl) (by kernel_rfl) (fun _ _ _ h => h) (Or.inl ⟨by rfl, ?_⟩) (by assumption) ?_
  rotate_left
  · intro w hSw
    (try dsimp only at hSw)
    first | (go_simp; done) | (go_simp; with_reducible rfl)
  (try simp only [Act.put, List.setIfInBounds_toArray, List.set_cons_zero, List.set_cons_succ])
  refine wpAnyH_takeD (i := 32) (d := some 47) (v := ?_) rfl rfl (by kernel_rfl) (by kernel_rfl) (by kernel_rfl) (fun _ _ _ h => h) (Or.inl ⟨by rfl, ?_⟩) (by assumption) ?_
  rotate_left
  · intro w hSw
    (try dsimp only at hSw)
    first | (go_simp; done) | (go_simp; with_reducible rfl)
  (try simp only [Act.put, List.setIfInBounds_toArray, List.set_cons_zero, List.set_cons_succ])
  refine wpAnyH_takeD (i := 33) (d := some 48) (v := ?_) rfl rfl (by kernel_rfl) (by kernel_rfl) (by kernel_rfl) (fun _ _ _ h => h) (Or.inl ⟨by rfl, ?_⟩) (by assumption) ?_
  rotate_left
  · intro w hSw
    (try dsimp only at hSw)
    first | (go_simp; done) | (go_simp; with_reducible rfl)
  (try simp only [Act.put, List.setIfInBounds_toArray, List.set_cons_zero, List.set_cons_succ])
  refine wpAnyH_takeD (i := 34) (d := some 49) (v := ?_) rfl rfl (by kernel_rfl) (by kernel_rfl) (by kernel_rfl) (fun _ _ _ h => h) (Or.inl ⟨by rfl, ?_⟩) (by assumption) ?_
  rotate_left
  · intro w hSw
    (try dsimp only at hSw)
    first | (go_simp; done) | (go_simp; with_reducible rfl)
  (try simp only [Act.put, List.setIfInBounds_toArray, List.set_cons_zero, List.set_cons_succ])
  refine wpAnyH_takeD (i := 35) (d := some 50) (v := ?_) rfl rfl (by kernel_rfl) (by kernel_rfl) (by kernel_rfl) (fun _ _ _ h => h) (Or.inl ⟨by rfl, ?_⟩) (by assumption) ?_
  rotate_left
  · intro w hSw
    (try dsimp only at hSw)
    first | (go_simp; done) | (go_simp; with_reducible rfl)
  (try simp only [Act.put, List.setIfInBounds_toArray, List.set_cons_zero, List.set_cons_succ])
  refine wpAnyH_takeD (i := 36) (d := some 51) (v := ?_) rfl rfl (by kernel_rfl) (by kernel_rfl) (by kernel_rfl) (fun _ _ _ h => h) (Or.inl ⟨by rfl, ?_⟩) (by assumption) ?_
  rotate_left
  · intro w hSw
    (try dsimp only at hSw)
    first | (go_simp; done) | (go_simp; with_reducible rfl)
  (try simp only [Act.put, List.setIfInBounds_toArray, List.set_cons_zero, List.set_cons_succ])
  refine wpAnyH_takeD (i := 38) (d := some 53) (v := ?_) rfl rfl (by kernel_rfl) (by kernel_rfl) (by kernel_rfl) (fun _ _ _ h => h) (Or.inl ⟨by rfl, ?_⟩) (by assumption) ?_
  rotate_left
  · intro w hSw
    (try dsimp only at hSw)
    first | (go_simp; done) | (go_simp; with_reducible rfl)
  (try simp only [Act.put, List.setIfInBounds_toArray, List.set_cons_zero, List.set_cons_succ])
  refine wpAnyH_takeD (i := 39) (d := some 54) (v := ?_) rfl rfl (by kernel_rfl) (by kernel_rfl) (by kernel_rfl) (fun _ _ _ h => h) (Or.inl ⟨by rfl, ?_⟩) (by assumption) ?_
  rotate_left
  · intro w hSw
    (try dsimp only at hSw)
    first | (go_simp; done) | (go_simp; with_reducible rfl)
  (try simp only [Act.put, List.setIfInBounds_toArray, List.set_cons_zero, List.set_cons_succ])
  refine wpAnyH_takeD (i := 40) (d := some 55) (v := ?_) rfl rfl (by kernel_rfl) (by kernel_rfl) (by kernel_rfl) (fun _ _ _ h => h) (Or.inl ⟨by rfl, ?_⟩) (by assumption) ?_
  rotate_left
  · intro w hSw
    (try dsimp only at hSw)
    first | (go_simp; done) | (go_simp; with_reducible rfl)
  (try simp only [Act.put, List.setIfInBounds_toArray, List.set_cons_zero, List.set_cons_succ])
  refine wpAnyH_takeD (i := 41) (d := some 56) (v := ?_) rfl rfl (by kernel_rfl) (by kernel_rfl) (by kernel_rfl) (fun _ _ _ h => h) (Or.inl ⟨by rfl, ?_⟩) (by assumption) ?_
  rotate_left
  · intro w hSw
    (try dsimp only at hSw)
    first | (go_simp; done) | (go_simp; with_reducible rfl)
  (try simp only [Act.put, List.setIfInBounds_toArray, List.set_cons_zero, List.set_cons_succ])
  refine wpAnyH_takeD (i := 42) (d := some 57) (v := ?_) rfl rfl (by kernel_rfl) (by kernel_rfl) (by kernel_rfl) (fun _ _ _ h => h) (Or.inl ⟨by rfl, ?_⟩) (by assumption) ?_
  rotate_left
  · intro w hSw
    (try dsimp only at hSw)
    first | (go_simp; done) | (go_simp; with_reducible rfl)
  (try simp only [Act.put, List.setIfInBounds_toArray, List.set_cons_zero, List.set_cons_succ])
  refine wpAnyH_takeD (i := 43) (d := some 58) (v := ?_) rfl rfl (by kernel_rfl) (by kernel_rfl) (by kernel_rfl) (fun _ _ _ h => h) (Or.inl ⟨by rfl, ?_⟩) (by assumption) ?_
  rotate_left
  · intro w hSw
    (try dsimp only at hSw)
    first | (go_simp; done) | (go_simp; with_reducible rfl)
  (try simp only [Act.put, List.setIfInBounds_toArray, List.set_cons_zero, List.set_cons_succ])
  refine wpAnyH_takeD (i := 44) (d := some 59) (v := ?_) rfl rfl (by kernel_rfl) (by kernel_rfl) (by kernel_rfl) (fun _ _ _ h => h) (Or.inl ⟨by rfl, ?_⟩) (by assumption) ?_
  rotate_left
  · intro w hSw
    (try dsimp only at hSw)
    first | (go_simp; done) | (go_simp; with_reducible rfl)
  (try simp only [Act.put, List.setIfInBounds_toArray, List.set_cons_zero, List.set_cons_succ])
  refine wpAnyH_ready (rs := [37]) (by kernel_rfl) (by simp) ?_
  refine AllReadyH.cons rfl (fun K hK => ?_) AllReadyH.nil
  go_simp
  refine (All_c _ c q es ((HL0.out _ HTm.out).condAt 0 rfl) ((HL0.out _ HTm.out).qAt 1 rfl) (fun e he => ⟨(HPW.out _ HTm.out).1 e he, HB.out.2.2.2.1 e he⟩) HB.out.2.2.1).mono ?_
  rintro e w2 ⟨al, ra, rc, ys, rfl, hpy, hL⟩
  have HT2 := Lib.hid (HTm.out.trans' hL.tch)
  have HLA := Lib.hid hL
  have HPY := Lib.hid hpy
  clear hpy hL y0 y1 y2 y3 y4 y5 y6 hlx hHeld
  obtain ⟨y0, y1, y2, y3, y4, y5, y6, _, hlx, _, _⟩ := (HL0.out w2 HT2.out).c7 3 rfl
  go_simp
  refine hK.out _ _ ?_ (fun hHeld => ?_)
  · (try dsimp only)
    go_keep
  clear hK K
  (try simp only [Act.put, List.setIfInBounds_toArray, List.set_cons_zero, List.set_cons_succ])
  refine wpAnyH_ready (rs := [45]) (by kernel_rfl) (by simp) ?_
  refine AllReadyH.cons rfl (fun K hK => ?_) AllReadyH.nil
  go_simp
  refine (over15 w2 al ra rc ys rs a cap many (HLA.out.allAt 0 rfl) (fun y hy => ?_) (HPW.out w2 HT2.out).2.1 (fun r hr => ⟨(HPW.out w2 HT2.out).2.2 r hr, HB.out.rnodes r hr⟩) (HPY.out.trans HB.out.1) (by have := HB.out.2.2.1; have := HEL.out; omega) HM.out).mono ?_
  · have hmm : y.plain ∈ es.map ME.plain := by rw [← HPY.out]; exact List.mem_map_of_mem hy
    obtain ⟨r, hr, hpr⟩ := List.mem_map.1 hmm
    rw [plain_nodes_eq hpr]; exact HB.out.2.2.2.1 r hr
  rintro e w3 ⟨rfl, ht⟩
  have HT3 := Lib.hid (HT2.out.trans' ht)
  clear ht y0 y1 y2 y3 y4 y5 y6 hlx hHeld
  obtain ⟨y0, y1, y2, y3, y4, y5, y6, _, hlx, _, _⟩ := (HL0.out w3 HT3.out).c7 3 rfl
  go_simp
  refine hK.out _ _ ?_ (fun hHeld => ?_)
  · (try dsimp only)
    go_keep
  clear hK K
  (try simp only [Act.put, List.setIfInBounds_toArray, List.set_cons_zero, List.set_cons_succ])
  refine wpAnyH_takeD (i := 46) (d := some 61) (v := ?_) rfl rfl (by kernel_rfl) (by kernel_rfl) (by kernel_rfl) (fun _ _ _ h => h) (Or.inl ⟨by rfl, ?_⟩) (by assumption) ?_
  rotate_left
  · intro w hSw
    (try dsimp only at hSw)
    first | (go_simp; done) | (go_simp; with_reducible rfl)
  (try simp only [Act.put, List.setIfInBounds_toArray, List.set_cons_zero, List.set_cons_succ])
  refine wpAnyH_takeD (i := 47) (d := some 62) (v := ?_) rfl rfl (by kernel_rfl) (by kernel_rfl) (by kernel_rfl) (fun _ _ _ h => h) (Or.inl ⟨by rfl, ?_⟩) (by assumption) ?_
  rotate_left
  · intro w hSw
    (try dsimp only at hSw)
    first | (go_simp; done) | (go_simp; with_reducible rfl)
  (try simp only [Act.put, List.setIfInBounds_toArray, List.set_cons_zero, List.set_cons_succ])
  refine wpAnyH_takeD (i := 48) (d := some 63) (v := ?_) rfl rfl (by kernel_rfl) (by kernel_rfl) (by kernel_rfl) (fun _ _ _ h => h) (Or.inl ⟨by rfl, ?_⟩) (by assumption) ?_
  rotate_left
  · intro w hSw
    (try dsimp only at hSw)
    first | (go_simp; done) | (go_simp; with_reducible rfl)
  (try simp only [Act.put, List.setIfInBounds_toArray, List.set_cons_zero, List.set_cons_succ])
  refine wpAnyH_takeD (i := 49) (d := some 64) (v := ?_) rfl rfl (by kernel_rfl) (by kernel_rfl) (by kernel_rfl) (fun _ _ _ h => h) (Or.inl ⟨by rfl, ?_⟩) (by assumption) ?_
  rotate_left
  · intro w hSw
    (try dsimp only at hSw)
    first | (go_simp; done) | (go_simp; with_reducible rfl)
  (try simp only [Act.put, List.setIfInBounds_toArray, List.set_cons_zero, List.set_cons_succ])
  refine wpAnyH_takeD (i := 50) (d := some 65) (v := ?_) rfl rfl (by kernel_rfl) (by kernel_rfl) (by kernel_rfl) (fun _ _ _ h => h) (Or.inl ⟨by rfl, ?_⟩) (by assumption) ?_
  rotate_left
  · intro w hSw
    (try dsimp only at hSw)
    first | (go_simp; done) | (go_simp; with_reducible rfl)
  (try simp only [Act.put, List.setIfInBounds_toArray, List.set_cons_zero, List.set_cons_succ])
  refine wpAnyH_takeD (i := 51) (d := some 66) (v := ?_) rfl rfl (by kernel_rfl) (by kernel_rfl) (by kernel_rfl) (fun _ _ _ h => h) (Or.inl ⟨by rfl, ?_⟩) (by assumption) ?_
  rotate_left
  · intro w hSw
    (try dsimp only at hSw)
    first | (go_simp; done) | (go_simp; with_reducible rfl)
  (try simp only [Act.put, List.setIfInBounds_toArray, List.set_cons_zero, List.set_cons_succ])
  refine wpAnyH_takeD (i := 53) (d := some 68) (v := ?_) rfl rfl (by kernel_rfl) (by kernel_rfl) (by kernel_rfl) (fun _ _ _ h => h) (Or.inl ⟨by rfl, ?_⟩) (by assumption) ?_
  rotate_left
  · intro w hSw
    (try dsimp only at hSw)
    first | (go_simp; done) | (go_simp; with_reducible rfl)
  (try simp only [Act.put, List.setIfInBounds_toArray, List.set_cons_zero, List.set_cons_succ])
  refine wpAnyH_takeD (i := 54) (d := some 69) (v := ?_) rfl rfl (by kernel_rfl) (by kernel_rfl) (by kernel_rfl) (fun _ _ _ h => h) (Or.inl ⟨by rfl, ?_⟩) (by assumption) ?_
  rotate_left
  · intro w hSw
    (try dsimp only at hSw)
    first | (go_simp; done) | (go_simp; with_reducible rfl)
  (try simp only [Act.put, List.setIfInBounds_toArray, List.set_cons_zero, List.set_cons_succ])
  refine wpAnyH_takeD (i := 55) (d := some 70) (v := ?_) rfl rfl (by kernel_rfl) (by kernel_rfl) (by kernel_rfl) (fun _ _ _ h => h) (Or.inl ⟨by rfl, ?_⟩) (by assumption) ?_
  rotate_left
  · intro w hSw
    (try dsimp only at hSw)
    first | (go_simp; done) | (go_simp; with_reducible rfl)
  (try simp only [Act.put, List.setIfInBounds_toArray, List.set_cons_zero, List.set_cons_succ])
  refine wpAnyH_takeD (i := 56) (d := some 71) (v := ?_) rfl rfl (by kernel_rfl) (by kernel_rfl) (by kernel_rfl) (fun _ _ _ h => h) (Or.inl ⟨by rfl, ?_⟩) (by assumption) ?_
  rotate_left
  · intro w hSw
    (try dsimp only at hSw)
    first | (go_simp; done) | (go_simp; with_reducible rfl)
  (try simp only [Act.put, List.setIfInBounds_toArray, List.set_cons_zero, List.set_cons_succ])
  refine wpAnyH_takeD (i := 57) (d := some 72) (v := ?_) rfl rfl (by kernel_rfl) (by kernel_rfl) (by kernel_rfl) (fun _ _ _ h => h) (Or.inl ⟨by rfl, ?_⟩) (by assumption) ?_
  rotate_left
  · intro w hSw
    (try dsimp only at hSw)
    first | (go_simp; done) | (go_simp; with_reducible rfl)
  (try simp only [Act.put, List.setIfInBounds_toArray, List.set_cons_zero, List.set_cons_succ])
  refine wpAnyH_takeD (i := 58) (d := some 73) (v := ?_) rfl rfl (by kernel_rfl) (by kernel_rfl) (by kernel_rfl) (fun _ _ _ h => h) (Or.inl ⟨by rfl, ?_⟩) (by assumption) ?_
  rotate_left
  · intro w hSw
    (try dsimp only at hSw)
    first | (go_simp; done) | (go_simp; with_reducible rfl)
  (try simp only [Act.put, List.setIfInBounds_toArray, List.set_cons_zero, List.set_cons_succ])
  refine wpAnyH_takeD (i := 59) (d := some 74) (v := ?_) rfl rfl (by kernel_rfl) (by kernel_rfl) (by kernel_rfl) (fun _ _ _ h => h) (Or.inl ⟨by rfl, ?_⟩) (by assumption) ?_
  rotate_left
  · intro w hSw
    (try dsimp only at hSw)
    first | (go_simp; done) | (go_simp; with_reducible rfl)
  (try simp only [Act.put, List.setIfInBounds_toArray, List.set_cons_zero, List.set_cons_succ])
  refine wpAnyH_ready (rs := [52]) (by kernel_rfl) (by simp) ?_
  refine AllReadyH.cons rfl (fun K hK => ?_) AllReadyH.nil
  go_simp
  refine ((HL0.out _ HT3.out).arq 4 rfl (fun fp hI => Count_any _ g fp s hI)).mono ?_
  rintro e wn ⟨rfl, rfl⟩
  go_simp
  refine hK.out _ _ ?_ (fun hHeld => ?_)
  · (try dsimp only)
    go_keep
  clear hK K
  (try simp only [Act.put, List.setIfInBounds_toArray, List.set_cons_zero, List.set_cons_succ])
  refine wpAnyH_takeD (i := 60) (d := some 75) (v := ?_) rfl rfl (by kernel_rfl) (by kernel_rfl) (by kernel_rfl) (fun _ _ _ h => h) (Or.inl ⟨by rfl, ?_⟩) (by assumption) ?_
  rotate_left
  · intro w hSw
    (try dsimp only at hSw)
    first | (go_simp; done) | (go_simp; with_reducible rfl)
  (try simp only [Act.put, List.setIfInBounds_toArray, List.set_cons_zero, List.set_cons_succ])
  refine wpAnyH_takeD (i := 61) (d := some 76) (v := ?_) rfl rfl (by kernel_rfl) (by kernel_rfl) (by kernel_rfl) (fun _ _ _ h => h) (Or.inl ⟨by rfl, ?_⟩) (by assumption) ?_
  rotate_left
  · intro w hSw
    (try dsimp only at hSw)
    first | (go_simp; done) | (go_simp; with_reducible rfl)
  (try simp only [Act.put, List.setIfInBounds_toArray, List.set_cons_zero, List.set_cons_succ])
  refine wpAnyH_takeD (i := 62) (d := some 4) (v := ?_) rfl rfl (by kernel_rfl) (by kernel_rfl) (by kernel_rfl) (fun _ _ _ h => h) (Or.inl ⟨by rfl, ?_⟩) (by assumption) ?_
  rotate_left
  · intro w hSw
    (try dsimp only at hSw)
    first | (go_simp; done) | (go_simp; with_reducible rfl)
  (try simp only [Act.put, List.setIfInBounds_toArray, List.set_cons_zero, List.set_cons_succ])
  refine wpAnyH_done (by kernel_rfl) ?_ _
  clear y0 y1 y2 y3 y4 y5 y6 hlx hHeld
  go_wp2
  go_ret
  have hw1 : IntKind.i64.wrap 1 = 1 := by decide
  have hw2 : IntKind.u64.wrap (s.L.length : Int) = (s.L.length : Int) := by rw [IntKind.wrap_u64]; omega
  exact ⟨by simp [hw1, hw2], HT3.out⟩
end Go.Proofs.Ytihmbgdkllmkaaa

/-
  A range over a function, in the wide fence, for iterators that themselves range over others: as XRange's wp_range, the ways out by a jump told by the state.
-/
namespace Go.Proofs.Ytihmbgdkllmkaaa
open Go.RowKit

/-- How an iterator ends: as IterEnd, the state of the jump told. -/
def IterEnd2 {β : Type} (Fin : β → Prop) (J Jx : β → World → Prop) (e : Ending) (W : World) : Prop := (∃ v, e = .returned v) ∧ ((∃ b, Fin b ∧ J b W) ∨ ∃ b, Jx b W)
theorem yieldAt_wide {m n : Nat} {P : Program} {l : Nat} {args : Array Value} {W : World} {R : Ending → World → Prop} (h : YieldAt Fence.wide m P l args W R) : YieldAt Fence.wide n P l args W R := by
  obtain ⟨fn, tmps, assign, body, hy, hR⟩ := h
  exact ⟨fn, tmps, assign, body, hy, hR.1, fun c cs _ => hR.2 c cs (room_wide _)⟩
theorem wp_range2 {β : Type} {P : Program} {n : Nat} {g : Operand} {ps : Array Tmp} {assign body : Code} {Q : Exit → Act → World → Prop} {a : Act} {w : World}
    {gf : Nat} {lb : Array Value} (hg : a.eval g = .func (.func gf) #[] lb) (eg : ∀ args w, (callFunc gf args).run P w = .ok (.enter gf args) w)
    (J : β → World → Prop) (Jx : Code → β → World → Prop) (Fin : β → Prop) (arg : β → Array Value → β → Prop)
    (hps : ∀ b xs b', arg b xs b' → xs.size = ps.size)
    (hJ : ∀ b W o, J b W → J b (W.putObj (w.heap.size + 1) o)) (hJx : ∀ c b W o, Jx c b W → Jx c b (W.putObj (w.heap.size + 1) o))
    (b0 : β) (h0 : ∀ o, J b0 ((w.alloc (.deferred (some []))).alloc o))
    (hround : ∀ b xs b' W, arg b xs b' → J b W → w.heap.size + 1 < W.heap.size →
      assign.wpIn (Fence.wide.inRound (w.heap.size + 1)) (n - 1 - 1) P (Exit.then (fun a1 W1 => Kept w.heap.size W W1 ∧
        ∀ o, body.wpIn (Fence.wide.inRound (w.heap.size + 1)) (n - 1 - 1) P (bodyQ w.heap.size (W1.putObj (w.heap.size + 1) o) (J b') (fun c => Jx c b')) a1 (W1.putObj (w.heap.size + 1) o)) (fun _ _ _ => False))
        { tmps := (ps.zip xs).foldl (fun t (p, v) => t.setIfInBounds p v) a.tmps, defers := [] } W)
    (hiter : ∀ (J' Jx' : β → World → Prop), (∀ b W, J' b W → J b W ∧ w.heap.size + 1 < W.heap.size) → (∀ b W b' W', J' b W → J b' W' → Kept w.heap.size W W' → J' b' W') →
      (∀ b W, Jx' b W → (∃ c, Jx c b W) ∧ w.heap.size + 1 < W.heap.size) → (∀ b W b' W', Jx' b W → (∀ c, Jx c b W → Jx c b' W') → Kept w.heap.size W W' → Jx' b' W') →
      (∀ b xs b' W, arg b xs b' → J' b W → YieldAt Fence.wide (n - 1 - 1) P (w.heap.size + 1) xs W (Told (J' b') (Jx' b'))) →
      ∀ W, J' b0 W → CallsIn Fence.wide (n - 1) P gf (#[.func (.yield (w.heap.size + 1)) #[] #[]] ++ lb) W (IterEnd2 Fin J' Jx'))
    (hdone : ∀ b W, Fin b → J b W → W.heap[w.heap.size]? = some (.deferred (some [])) → w.heap.size + 1 < W.heap.size → Q .normal { a with defers := { target := .collected w.heap.size, args := #[] } :: a.defers } W)
    (hstop : ∀ c b W, Jx c b W → W.heap[w.heap.size]? = some (.deferred (some [])) → w.heap.size + 1 < W.heap.size → c.wpIn Fence.wide n P Q { a with defers := { target := .collected w.heap.size, args := #[] } :: a.defers } W) :
    (Code.rangeFunc g ps assign body).wpIn Fence.wide n P Q a w := by
  refine wpIn_rangeFunc ?_
  intro fn _
  obtain ⟨rec, hrec⟩ : ∃ rec : LoopState → Option Code → Loop, rec = fun st pe => { state := st, pending := pe, fn, tmps := a.tmps, params := ps, assign, body, defers := w.heap.size } := ⟨_, rfl⟩
  obtain ⟨W1, hW1⟩ : ∃ W1, (w.alloc (.deferred (some []))).alloc (.loop (rec .ready none)) = W1 := ⟨_, rfl⟩
  have hL1 : W1.heap[w.heap.size + 1]? = some (.loop (rec .ready none)) := by
    rw [← hW1]; have := World.alloc_heap_new (w.alloc (.deferred (some []))) (.loop (rec .ready none)); rwa [World.size_alloc] at this
  have hK1 : W1.heap[w.heap.size]? = some (.deferred (some [])) := by
    rw [← hW1]; exact (Below.heap_alloc _ _ _ (by simp)).trans (World.alloc_heap_new w _)
  refine ⟨w.heap.size + 1, [{ target := .collected w.heap.size, args := #[] }], W1, { target := .fn (.func gf) lb, args := #[.func (.yield (w.heap.size + 1)) #[] #[]] }, W1, gf,
    #[.func (.yield (w.heap.size + 1)) #[] #[]] ++ lb, W1, ?_, ?_, ?_, ?_, fun h => by simp [Fence.wide] at h, ?_⟩
  · rw [← hW1, hrec]; exact run_enterLoop_outer _ _ _ _ _
  · simp only [resolve, hg]
    simp [go_sem]
  · intro f' _; trivial
  · simp [invoke, go_sem, eg]
  · refine (hiter (fun b W => J b W ∧ W.heap[w.heap.size + 1]? = some (.loop (rec .ready none)) ∧ W.heap[w.heap.size]? = some (.deferred (some [])))
      (fun b W => ∃ c, Jx c b W ∧ W.heap[w.heap.size + 1]? = some (.loop (rec .done (some c))) ∧ W.heap[w.heap.size]? = some (.deferred (some [])))
      (fun b W h => ⟨h.1, (Array.getElem?_eq_some_iff.1 h.2.1).1⟩) (fun b W b' W' h h' hk => ⟨h', hk.2.trans h.2.1, hk.1.trans h.2.2⟩)
      (fun b W ⟨c, h1, h2, h3⟩ => ⟨⟨c, h1⟩, (Array.getElem?_eq_some_iff.1 h2).1⟩) (fun b W b' W' ⟨c, h1, h2, h3⟩ hc hk => ⟨c, hc c h1, hk.2.trans h2, hk.1.trans h3⟩) ?_ W1 ⟨by rw [← hW1]; exact h0 _, hL1, hK1⟩).mono ?_
    · rintro b xs b' W harg ⟨hj, hl, hk⟩
      have hlt : w.heap.size + 1 < W.heap.size := (Array.getElem?_eq_some_iff.1 hl).1
      have hy := run_yield (P := P) (args := xs) hl (by rw [hrec]; exact hps _ _ _ harg)
      rw [hrec] at hy
      refine ⟨fn, _, assign, body, hy, roundIn_of_wpIn trivial (wpIn_mono (hround b xs b' W harg hj hlt) ?_)⟩
      rintro ex a1 Wa hpost
      cases ex with
      | ret => exact hpost.elim
      | exit id => exact hpost.elim
      | goto t => exact hpost.elim
      | panic ch => exact hpost.elim
      | outgrown => exact hpost.elim
      | normal =>
      obtain ⟨hka, hbody⟩ := hpost
      have hl1 := hka.2.trans hl
      have hk1 := hka.1.trans hk
      have hlt1 : w.heap.size + 1 < Wa.heap.size := (Array.getElem?_eq_some_iff.1 hl1).1
      refine ⟨_, run_beginRound hl1 (by rw [hrec]), ?_⟩
      have hl2 : (Wa.putObj (w.heap.size + 1) (.loop { rec .ready none with state := .busy })).heap[w.heap.size + 1]? = some (.loop { rec .ready none with state := .busy }) := World.putObj_heap_same hlt1
      have hk2 : (Wa.putObj (w.heap.size + 1) (.loop { rec .ready none with state := .busy })).heap[w.heap.size]? = some (.deferred (some [])) := (World.putObj_heap_other (by omega)).trans hk1
      refine wpIn_mono (hbody _) ?_
      have fin : ∀ (jump : Option Code) (W3 : World), Kept w.heap.size (Wa.putObj (w.heap.size + 1) (.loop { rec .ready none with state := .busy })) W3 →
          (Instr.endRound (w.heap.size + 1) jump).run P W3 = .ok (.bool jump.isNone) (W3.putObj (w.heap.size + 1) (.loop (rec (if jump.isNone then .ready else .done) jump))) ∧
          (W3.putObj (w.heap.size + 1) (.loop (rec (if jump.isNone then .ready else .done) jump))).heap[w.heap.size + 1]? = some (.loop (rec (if jump.isNone then .ready else .done) jump)) ∧
          (W3.putObj (w.heap.size + 1) (.loop (rec (if jump.isNone then .ready else .done) jump))).heap[w.heap.size]? = some (.deferred (some [])) := fun jump W3 hk3 => by
        have hl3 := hk3.2.trans hl2
        have := run_endRound (P := P) jump hl3
        rw [hrec] at this ⊢
        exact ⟨this, World.putObj_heap_same (Array.getElem?_eq_some_iff.1 hl3).1, (World.putObj_heap_other (by omega)).trans (hk3.1.trans hk2)⟩
      rintro e a3 W3 hp
      cases e with
      | normal =>
        obtain ⟨hk3, hj3⟩ := hp
        obtain ⟨hr, hl4, hk4⟩ := fin none W3 hk3
        exact ⟨_, _, hr, .inl ⟨rfl, hJ _ _ _ hj3, hl4, hk4⟩⟩
      | ret =>
        obtain ⟨hk3, hj3⟩ := hp
        obtain ⟨hr, hl4, hk4⟩ := fin (some .ret) W3 hk3
        exact ⟨_, _, hr, .inr ⟨rfl, .ret, hJx _ _ _ _ hj3, hl4, hk4⟩⟩
      | exit id =>
        obtain ⟨hk3, hj3⟩ := hp
        obtain ⟨hr, hl4, hk4⟩ := fin (some (.exit id)) W3 hk3
        exact ⟨_, _, hr, .inr ⟨rfl, .exit id, hJx _ _ _ _ hj3, hl4, hk4⟩⟩
      | goto t =>
        obtain ⟨hk3, hj3⟩ := hp
        obtain ⟨hr, hl4, hk4⟩ := fin (some (.goto t)) W3 hk3
        exact ⟨_, _, hr, .inr ⟨rfl, .goto t, hJx _ _ _ _ hj3, hl4, hk4⟩⟩
      | panic ch => exact hp.elim
      | outgrown => exact hp.elim
    · rintro e W2 ⟨⟨v, rfl⟩, (⟨b, hF, hj, hl, hk⟩ | ⟨b, c, hj, hl, hk⟩)⟩
      · exact ⟨none, _, by have := run_endLoop (P := P) hl (by rw [hrec]; simp); rw [hrec] at this; exact this, hdone b _ hF (hJ _ _ _ hj) ((World.putObj_heap_other (by omega)).trans hk) (by rw [World.putObj_size]; exact (Array.getElem?_eq_some_iff.1 hl).1)⟩
      · exact ⟨some c, _, by have := run_endLoop (P := P) hl (by rw [hrec]; simp); rw [hrec] at this; exact this, hstop c b _ (hJx _ _ _ _ hj) ((World.putObj_heap_other (by omega)).trans hk) (by rw [World.putObj_size]; exact (Array.getElem?_eq_some_iff.1 hl).1)⟩

end Go.Proofs.Ytihmbgdkllmkaaa

/-
  Layer 15: Same of two conditions (cond.go): a loop over what a filter lets by of another iterator.
-/
namespace Go.Proofs.Ytihmbgdkllmkaaa
open Go.RowKit Go.Shelf
set_option maxRecDepth 100000
set_option linter.unusedVariables false
set_option linter.unusedSimpArgs false
attribute [local go_sem] Oper.semAt_some

/-- What the filter of Same looks at. -/
def Looks (w : World) (bb c2 q2 : Nat) (fs : List ME) : Prop := w.cell? ⟨bb, 0, none⟩ = some (.pointer (some ⟨c2, 0, none⟩)) ∧ CondAt w c2 0 1 q2 ∧ QAt w q2 fs ∧ ∀ e ∈ fs, e.v.In w ∧ e.v.nodes ≤ 256
theorem Looks.touch {w w' : World} {bb c2 q2 : Nat} {fs : List ME} (h : Looks w bb c2 q2 fs) (ht : Touch [] w w') : Looks w' bb c2 q2 fs :=
  ⟨ht.cellOf h.1, h.2.1.touch ht, h.2.2.1.touch ht, fun e he => ⟨(h.2.2.2 e he).1.touch0 ht, (h.2.2.2 e he).2⟩⟩
set_option maxHeartbeats 2000000 in
theorem same1_c (w : World) (bb c2 q2 k : Nat) (fs : List ME) (x : ME) (h : Looks w bb c2 q2 fs) (hx : x.v.In w) (hxn : x.v.nodes ≤ 256) :
    Calls Try.prog 88 #[.int .i64 (k : Int), x.val, .pointer (some ⟨bb, 0, none⟩)] w (Tells (¬ (fs.map ME.plain)[k]? = some x.plain) w) := by
  have HK := Lib.hid (fun W (hW : Touch [] w W) => h.touch hW)
  have HX := Lib.hid (fun W (hW : Touch [] w W) => hx.touch0 hW)
  have HXN := Lib.hid hxn
  have hbl : bb < w.heap.size := World.block_lt_of_cell? _ _ h.1
  have hbl1 : bb < w.heap.size + 1 := by omega
  have b0 := h.1
  obtain ⟨d0, d1, d2, hl, hl2⟩ := h.2.1.cells
  clear h hx hxn
  rw [ent_eq]
  go_enter Try.func88, Try.ntmps88
  go_wp2_with fail
  refine wp_calls_name ?_
  intro w1 hw1
  have HL1 := Lib.hid ((Led.nil' w).al1 hw1)
  simp only [List.nil_append] at HL1
  obtain ⟨b4, hb4⟩ : ∃ b, w.heap.size = b := ⟨_, rfl⟩
  rw [hb4] at HL1 ⊢
  clear hw1 hb4 hbl hbl1 b0 d0 d1 d2 hl hl2
  have HAT := Lib.hid (At_q w1 q2 fs (k : Int) (HK.out w1 HL1.out.tch).2.2.1 (HK.out w1 HL1.out.tch).2.2.2)
  refine HAT.out.mono ?_
  rintro e w2 ⟨y, cc, rfl, hR, hyin, _, ht⟩
  have HL2 := Lib.hid (HL1.out.touch ht)
  have HR := Lib.hid hR
  have HYI := Lib.hid (fun W (hW : Touch [] w2 W) => hyin.touch0 hW)
  clear ht hR hyin HAT HL1
  simp only [ent_eq]
  obtain ⟨x0, x1, x2, x3, x4, x5, x6, _, hl4, _, _⟩ := HL2.out.c7 0 rfl
  cases cc with
  | false =>
    go_wp2
    have HL3 := Lib.hid (HL2.out.touch ((Touch.refl [] w2).alloc (.cells #[.int .i64 y.sync, .int .i64 y.thread, .int .i64 y.branch, .int .i64 y.flag, .int .i64 y.v.kind, .int .i64 y.v.num, .slice y.v.addr y.v.parts.length y.v.cap] 27)))
    go_ret
    refine ⟨true, rfl, ⟨fun _ => ?_, fun _ => rfl⟩, HL3.out.tch⟩
    rcases HR.out with ⟨hc, _⟩ | ⟨_, hn, _⟩
    · cases hc
    · intro hcon
      have := (List.getElem?_eq_some_iff.1 hcon).1
      exact hn ⟨by omega, by omega⟩
  | true =>
    have HP : Hid ((fs.map ME.plain)[k]? = some y.plain) := by
      rcases HR.out with ⟨_, _, h⟩ | ⟨hc, _⟩
      · simpa [Hid] using h
      · cases hc
    have HYN : Hid (y.v.nodes ≤ 256) := by
      have h := HP.out
      rw [List.getElem?_map, Option.map_eq_some_iff] at h
      obtain ⟨f, hf, hfy⟩ := h
      unfold Hid
      rw [plain_nodes_eq hfy]
      exact ((HK.out w2 HL2.out.tch).2.2.2 f (List.mem_of_getElem? hf)).2
    go_wp2_with fail
    refine wp_calls_name ?_
    intro w3 hw3
    have HL3 := Lib.hid (HL2.out.al1 hw3)
    have HT3 : Hid (Touch [] w2 w3) := hw3 ▸ (Touch.refl [] w2).alloc _
    clear hw3 HL2 x0 x1 x2 x3 x4 x5 x6 hl4
    have HSE := Lib.hid (SameEntry_q x y w3 (HX.out w3 HL3.out.tch) (HYI.out w3 HT3.out))
    simp only [ent_eq] at HSE
    refine HSE.out.mono ?_
    rintro e w4 ⟨c, rfl, hc, ht⟩
    have HL4 := Lib.hid (HL3.out.touch ht)
    have HC := Lib.hid hc
    clear hc ht HSE HL3
    go_wp2
    go_ret
    refine ⟨!c, rfl, ?_, HL4.out.tch⟩
    have hcc := HC.out
    rw [HP.out]
    have e1 : (some y.plain = some x.plain) ↔ x.plain = y.plain := by simp [eq_comm]
    rw [e1]
    have h2 : c = true ↔ x.plain = y.plain := hcc.trans ⟨fun h => h.2.2, fun h => ⟨HXN.out, HYN.out, h⟩⟩
    cases c <;> simp at h2 ⊢ <;> exact h2
/-- What lies there of the filter's iterator. -/
def FilterAt (w : World) (bl bi bx : Nat) (a : Option Addr) (cap : Nat) (ys : List ME) (bb c2 q2 : Nat) (fs : List ME) : Prop :=
  w.cell? ⟨bl, 0, none⟩ = some (.func (.func 69) #[] #[.pointer (some ⟨bx, 0, none⟩)]) ∧ w.cell? ⟨bi, 0, none⟩ = some (.func (.func 88) #[] #[.pointer (some ⟨bb, 0, none⟩)]) ∧ AllAt w bx a cap ys ∧ Looks w bb c2 q2 fs
theorem FilterAt.touch {w w' : World} {bl bi bx : Nat} {a : Option Addr} {cap : Nat} {ys : List ME} {bb c2 q2 : Nat} {fs : List ME} (h : FilterAt w bl bi bx a cap ys bb c2 q2 fs) (ht : Touch [] w w') : FilterAt w' bl bi bx a cap ys bb c2 q2 fs :=
  ⟨ht.cellOf h.1, ht.cellOf h.2.1, h.2.2.1.touch ht, h.2.2.2.touch ht⟩
theorem calls_wide_in {n : Nat} {P : Program} {f : FuncId} {args : Array Value} {w : World} {R : Ending → World → Prop} {l : Nat} (h : Calls P f args w R) : CallsIn (Fence.wide.inRound l) n P f args w R := CallsIn.inRound l (callsIn_wide.2 h)

theorem MT.In.new {W W' : World} {t : MT} {S : List Nat} {N : Nat} (h : t.In W) (hb : ∀ b ∈ t.blocks, N ≤ b) (ht : Touch S W W') (hS : ∀ k ∈ S, k < N) : t.In W' :=
  h.touch ht (fun k hk hc => by have := hb k hk; have := hS k hc; omega)
set_option maxHeartbeats 4000000 in
/-- The filter as an iterator: the caller's loop breaks at the first pair. -/
theorem filter_iter (n l N bl bi bx : Nat) (a : Option Addr) (cap : Nat) (ys : List ME) (bb c2 q2 : Nat) (fs : List ME) (hL : ys.length ≤ 1048576) (hnn : ∀ y ∈ ys, y.v.nodes ≤ 256) (J Jx : World → Prop)
    (hJ : ∀ W, J W → FilterAt W bl bi bx a cap ys bb c2 q2 fs ∧ N ≤ W.heap.size)
    (hmv : ∀ W W' S, J W → (∀ k ∈ S, N ≤ k) → Touch S W W' → J W')
    (hmx : ∀ W W' S, Jx W → (∀ k ∈ S, N ≤ k) → Touch S W W' → Jx W')
    (hY : ∀ (k : Nat) (x : ME) (W : World), (ys.map ME.plain)[k]? = some x.plain → ¬ (fs.map ME.plain)[k]? = some x.plain → J W → YieldAt Fence.wide n Try.prog l #[.int .i64 (k : Int), x.val] W (fun e W2 => e = .returned (.bool false) ∧ Jx W2 ∧ W.heap.size ≤ W2.heap.size ∧ ∀ b, N ≤ b → b < W.heap.size → W2.heap[b]? = W.heap[b]?))
    (W : World) (h0 : J W) :
    CallsIn Fence.wide n Try.prog 112 #[.func (.yield l) #[] #[], .pointer (some ⟨bl, 0, none⟩), .pointer (some ⟨bi, 0, none⟩)] W (fun e W => (∃ v, e = .returned v) ∧ ((J W ∧ ∀ k, k < ys.length → (ys.map ME.plain)[k]? = (fs.map ME.plain)[k]?) ∨ Jx W)) := by
  refine callsIn_of_wp_marks Try.func112 rfl trivial ?_ rfl
  simp only [Try.ntmps112, List.size_toArray, List.length_cons, List.length_nil, Nat.reduceAdd, Nat.reduceSub, Array.replicate_succ, Array.replicate_zero, List.push_toArray, List.append_toArray, List.nil_append, List.cons_append]
  have HJ := Lib.hid hJ
  have HMV := Lib.hid hmv
  have HMX := Lib.hid hmx
  have HY := Lib.hid hY
  have HNN := Lib.hid hnn
  have HLY := Lib.hid hL
  obtain ⟨b1, b2, _⟩ := (hJ W h0).1
  have hNW := (hJ W h0).2
  have z1 : bl < W.heap.size := World.block_lt_of_cell? _ _ b1
  have z2 : bl < W.heap.size + 1 := by omega
  have HB3 := Lib.hid (Blk.new W 121 #[.func (.yield l) #[] #[]])
  have H0 := Lib.hid (hmv W _ [] h0 (by simp) ((Touch.refl [] W).alloc (.cells #[.func (.yield l) #[] #[]] 121)))
  clear hJ hmv hmx hY hnn h0 b2 hL
  gi_wp2_with fail
  refine wpIn_name ?_
  intro w1 hw1
  have hz1 : w1.heap.size = W.heap.size + 1 := by rw [← hw1]; simp
  rw [hw1] at HB3 H0
  obtain ⟨b3, hb3⟩ : ∃ b, W.heap.size = b := ⟨_, rfl⟩
  rw [hb3] at HB3 hz1 hNW ⊢
  clear hw1 b1 z1 z2 hb3
  refine wp_range (β := Nat × Option ME) rfl (enters_of Try.func69 (by kernel_rfl) rfl)
    (fun b V => J V ∧ Blk V b3 121 #[.func (.yield l) #[] #[]] ∧ (∀ j, j < b.1 → (ys.map ME.plain)[j]? = (fs.map ME.plain)[j]?) ∧ ∀ x, b.2 = some x → (ys.map ME.plain)[b.1]? = some x.plain ∧ x.v.In V ∧ ∀ k ∈ x.v.blocks, w1.heap.size + 2 ≤ k)
    (fun c V => c = .ret ∧ Jx V) (fun b => b = (ys.length, none))
    (fun b xs b' => ∃ x, b.2 = some x ∧ b.1 < ys.length ∧ xs = #[.int .i64 (b.1 : Int), x.val] ∧ b' = (b.1 + 1, none))
    (fun b xs b' ⟨_, _, _, hx, _⟩ => by rw [hx]; rfl) ?_ ?_ (0, none) ?_ ?_ ?_ ?_ ?_
  · rintro b V o ⟨h1, h2, h3, h4⟩
    have ht : Touch [w1.heap.size + 1] V (V.putObj (w1.heap.size + 1) o) := (Touch.refl _ V).putObj (.inr (by simp)) o
    exact ⟨HMV.out _ _ [w1.heap.size + 1] h1 (by simp; omega) ht, h2.touch ht (by simp; omega), h3, fun x hx => ⟨(h4 x hx).1, (h4 x hx).2.1.new (h4 x hx).2.2 ht (by simp), (h4 x hx).2.2⟩⟩
  · rintro c V o ⟨h1, h2⟩
    exact ⟨h1, HMX.out _ _ [w1.heap.size + 1] h2 (by simp; omega) ((Touch.refl _ V).putObj (.inr (by simp)) o)⟩
  · intro o
    have ht : Touch [] w1 ((w1.alloc (.deferred (some []))).alloc o) := ((Touch.refl [] w1).alloc _).alloc _
    exact ⟨HMV.out _ _ [] H0.out (by simp) ht, Blk.touch HB3.out ht (by simp), fun j hj => by omega, fun x hx => by cases hx⟩
  · rintro ⟨k, ox⟩ xs b' V ⟨x, hx, hk, rfl, rfl⟩ ⟨hj, hb3, hpre, hxx⟩ hlt
    dsimp only at hx hk hpre hxx
    subst hx
    obtain ⟨hxp, hxin, hxb⟩ := hxx x rfl
    have HJV := Lib.hid hj
    have HB := Lib.hid hb3
    have HPRE := Lib.hid hpre
    have HXP := Lib.hid hxp
    have HXI := Lib.hid hxin
    have HXB := Lib.hid hxb
    have HXN : Hid (x.v.nodes ≤ 256) := by
      rw [List.getElem?_map, Option.map_eq_some_iff] at hxp
      obtain ⟨f, hf, hfy⟩ := hxp
      unfold Hid
      rw [plain_nodes_eq hfy]
      exact HNN.out f (List.mem_of_getElem? hf)
    clear hj hb3 hpre hxx hxp hxin hxb
    obtain ⟨D, hD⟩ : ∃ D, w1.heap.size = D := ⟨_, rfl⟩
    have hND : N ≤ D := by omega
    have hDb : b3 + 1 = D := by omega
    rw [hD] at hlt HXB ⊢
    clear hD
    rw [ent_eq]
    gi_wp2
    have ht1 := (Touch.refl [] V).alloc (.cells #[.int .i64 x.sync, .int .i64 x.thread, .int .i64 x.branch, .int .i64 x.flag, .int .i64 x.v.kind, .int .i64 x.v.num, .slice x.v.addr x.v.parts.length x.v.cap] 27)
    refine ⟨ht1.kept hlt (by simp) (by simp), fun o => ?_⟩
    clear ht1
    obtain ⟨V2, hV2⟩ : ∃ V2, World.putObj (World.alloc V (.cells #[.int .i64 x.sync, .int .i64 x.thread, .int .i64 x.branch, .int .i64 x.flag, .int .i64 x.v.kind, .int .i64 x.v.num, .slice x.v.addr x.v.parts.length x.v.cap] 27)) (D + 1) o = V2 := ⟨_, rfl⟩
    have HT2 : Hid (Touch [D + 1] V V2) := hV2 ▸ ((Touch.refl [D + 1] V).alloc (.cells #[.int .i64 x.sync, .int .i64 x.thread, .int .i64 x.branch, .int .i64 x.flag, .int .i64 x.v.kind, .int .i64 x.v.num, .slice x.v.addr x.v.parts.length x.v.cap] 27)).putObj (.inr (by simp)) o
    have HBE : Hid (Blk V2 V.heap.size 27 #[.int .i64 x.sync, .int .i64 x.thread, .int .i64 x.branch, .int .i64 x.flag, .int .i64 x.v.kind, .int .i64 x.v.num, .slice x.v.addr x.v.parts.length x.v.cap]) := hV2 ▸ (Blk.new V 27 #[.int .i64 x.sync, .int .i64 x.thread, .int .i64 x.branch, .int .i64 x.flag, .int .i64 x.v.kind, .int .i64 x.v.num, .slice x.v.addr x.v.parts.length x.v.cap]).putObj (by omega) o
    rw [hV2]
    have hlt2 : D + 1 < V2.heap.size := by have := HT2.out.size; omega
    clear hV2
    obtain ⟨be, hbe⟩ : ∃ b, V.heap.size = b := ⟨_, rfl⟩
    rw [hbe] at HBE ⊢
    clear hbe hlt
    have HJ2 := Lib.hid (HMV.out _ _ [D + 1] HJV.out (by simp; omega) HT2.out)
    have HB2 := Lib.hid (HB.out.touch HT2.out (by simp; omega))
    have HX2 := Lib.hid (HXI.out.new HXB.out HT2.out (by simp))
    clear HJV HB HXI HT2
    have HF2 := Lib.hid (HJ.out _ HJ2.out).1
    have f1 := HF2.out.2.1
    have g1 := HB2.out.cell 0
    simp at g1
    have e0 := HBE.out.cell 0
    have e1 := HBE.out.cell 1
    have e2 := HBE.out.cell 2
    have e3 := HBE.out.cell 3
    have e4 := HBE.out.cell 4
    have e5 := HBE.out.cell 5
    have e6 := HBE.out.cell 6
    simp at e0 e1 e2 e3 e4 e5 e6
    have HS1 := Lib.hid (same1_c V2 bb c2 q2 k fs x HF2.out.2.2.2 HX2.out HXN.out)
    rw [ent_eq] at HS1
    gi_wp2_with fail
    refine ⟨trivial, nodepth, ?_⟩
    refine (callsIn_wide.2 HS1.out).mono ?_
    rintro e V3 ⟨cc, rfl, hcc, ht⟩
    have HT3 := Lib.hid ht
    have HCC := Lib.hid hcc
    clear ht hcc HS1
    cases cc with
    | false =>
      gi_wp2
      refine ⟨fun _ h => (by cases h), ?_⟩
      gi_wp2
      refine ⟨HT3.out.kept hlt2 (by simp) (by simp), HMV.out _ _ [] HJ2.out (by simp) HT3.out, Blk.touch HB2.out HT3.out (by simp), fun j hj => ?_, fun x hx => by cases hx⟩
      have hfk : (fs.map ME.plain)[k]? = some x.plain := Classical.byContradiction fun hn => by have := HCC.out.2 hn; cases this
      by_cases hjk : j = k
      · subst hjk; rw [HXP.out, hfk]
      · exact HPRE.out j (by omega)
    | true =>
      have HJ3 := Lib.hid (HMV.out _ _ [] HJ2.out (by simp) HT3.out)
      have hy0 := yieldAt_wide (n := n - 1 - 1 - 1) (HY.out k x V3 HXP.out (HCC.out.1 rfl) HJ3.out)
      clear f1
      replace g1 := HT3.out.cellOf g1
      replace e0 := HT3.out.cellOf e0
      replace e1 := HT3.out.cellOf e1
      replace e2 := HT3.out.cellOf e2
      replace e3 := HT3.out.cellOf e3
      replace e4 := HT3.out.cellOf e4
      replace e5 := HT3.out.cellOf e5
      replace e6 := HT3.out.cellOf e6
      rw [ent_eq] at hy0
      obtain ⟨fn, tmps, assign, body, hy, hR⟩ := hy0
      have HR := Lib.hid hR
      clear hR
      gi_wp2_with fail
      refine ⟨nodepth, HR.out.mono ?_⟩
      rintro e V4 ⟨rfl, hjx, hsz, hkeep⟩
      have HX4 := Lib.hid hjx
      have HK4 : Hid (Kept D V2 V4) := (HT3.out.kept hlt2 (by simp) (by simp)).trans ⟨hkeep D hND (by have := HT3.out.size; omega), hkeep (D + 1) (by omega) (by have := HT3.out.size; omega)⟩
      clear hjx hsz hkeep hy
      gi_wp2
      exact ⟨HK4.out, rfl, HX4.out⟩
  · intro J' Jx' hJ' hC hCx hY' V hV
    refine CallsIn.mono (all_iter (n - 1) (w1.heap.size + 1) bx a cap ys HLY.out HNN.out (fun k V => J' (k, none) V) (fun k x V => J' (k, some x) V) (fun V => Jx' V) (fun k V h => (HJ.out _ (hJ' _ _ h).1.1).1.2.2.1) ?_ ?_ V hV) ?_
    · intro k V V' x h ht hin hb hp
      obtain ⟨⟨h1, h2, h3, h4⟩, h5⟩ := hJ' _ _ h
      exact hC (k, none) V (k, some x) V' h ⟨HMV.out _ _ [] h1 (by simp) ht, Blk.touch h2 ht (by simp), h3, fun y hy => by cases hy; exact ⟨hp, hin, fun b hb' => by have := hb b hb'; omega⟩⟩ (ht.kept h5 (by simp) (by simp))
    · intro k x V hk h
      exact hY' (k, some x) _ (k + 1, none) V ⟨x, rfl, hk, rfl, rfl⟩ h
    · rintro e V ⟨hv, ⟨k, hk, hj⟩ | hx⟩
      · exact ⟨hv, .inl ⟨(k, none), by rw [hk], hj⟩⟩
      · exact ⟨hv, .inr hx⟩
  · rintro b V rfl ⟨h1, h2, h3, _⟩ hm hlt
    obtain ⟨D, hD⟩ : ∃ D, w1.heap.size = D := ⟨_, rfl⟩
    have hND : N ≤ D := by omega
    rw [hD] at hm hlt ⊢
    refine leave_marks (v := .tuple #[]) [D] _ (fun k hk => by simp at hk; subst hk; exact hm) (by simp) (results_none rfl _ _ _) ⟨⟨_, rfl⟩, .inl ⟨HMV.out _ _ [D] h1 (by simp; omega) ((Touch.refl _ V).putObj (.inr (by simp)) _), h3⟩⟩
  · rintro c V ⟨rfl, hx⟩ hm hlt
    obtain ⟨D, hD⟩ : ∃ D, w1.heap.size = D := ⟨_, rfl⟩
    have hND : N ≤ D := by omega
    rw [hD] at hm hlt ⊢
    have HX := Lib.hid hx
    gi_wp2
    refine leave_marks (v := .tuple #[]) [D] _ (fun k hk => by simp at hk; subst hk; exact hm) (by simp) (results_none rfl _ _ _) ⟨⟨_, rfl⟩, .inr (HMX.out _ _ [D] HX.out (by simp; omega) ((Touch.refl _ V).putObj (.inr (by simp)) _))⟩

end Go.Proofs.Ytihmbgdkllmkaaa

/-
  Layer 15: Same of two conditions (cond.go), whole.
-/
namespace Go.Proofs.Ytihmbgdkllmkaaa
open Go.RowKit Go.Shelf
set_option maxRecDepth 100000
set_option linter.unusedVariables false
set_option linter.unusedSimpArgs false
attribute [local go_sem] Oper.semAt_some

theorem filter_c (w : World) (f1 f2 : Fn) (x1 x2 : Array Value) : Calls Try.prog 87 #[.func f1 #[] x1, .func f2 #[] x2] w fun e w' => ∃ bl bi, e = .returned (.func (.func 112) #[] #[.pointer (some ⟨bl, 0, none⟩), .pointer (some ⟨bi, 0, none⟩)]) ∧ Led [] w w' [box bl 48 #[.func f1 #[] x1], box bi 121 #[.func f2 #[] x2]] := by
  have HL := Lib.hid (((Led.nil' w).alloc 48 #[.func f1 #[] x1]).alloc 121 #[.func f2 #[] x2])
  go_enter Try.func87, Try.ntmps87
  go_wp2
  go_ret
  exact ⟨_, _, rfl, by simpa using HL.out⟩
theorem neq_cells (w : World) : (binOp .neq 88 (.agg #[.int .i64 0, .int .i64 1]) (.agg #[.int .i64 0, .int .i64 1])).run Try.prog w = .ok (.bool false) w := by kernel_rfl

def sdJ (wz : World) : Option (Bool × World) → World → Prop
  | none, W => Touch [] wz W
  | some (d, Wy), W => d = false ∧ Touch [] wz Wy ∧ Touch [wz.heap.size + 1] Wy W ∧ wz.heap.size + 1 < Wy.heap.size
def sdX (wz : World) (b6 : Nat) (p : Prop) (c : Code) (b : Option (Bool × World)) (W : World) : Prop :=
  c = .exit 0 ∧ ¬ p ∧ Touch [b6] wz W ∧ Blk W b6 4 #[.bool false] ∧ ∀ d Wy, b = some (d, Wy) → Touch [b6, wz.heap.size + 1] Wy W
theorem YieldAt.mono' {F : Fence} {m : Nat} {P : Program} {l : Nat} {args : Array Value} {W : World} {R R' : Ending → World → Prop} (h : YieldAt F m P l args W R) (hr : ∀ e w, R e w → R' e w) : YieldAt F m P l args W R' := by
  obtain ⟨fn, tmps, assign, body, hy, hR⟩ := h
  exact ⟨fn, tmps, assign, body, hy, hR.mono hr⟩
theorem plains_eq {a b : List PE} (hl : a.length = b.length) (h : ∀ k, k < a.length → a[k]? = b[k]?) : a = b := by
  apply List.ext_getElem? 
  intro k
  by_cases hk : k < a.length
  · exact h k hk
  · rw [List.getElem?_eq_none (by omega), List.getElem?_eq_none (by omega)]
set_option maxHeartbeats 4000000 in
theorem Same_c (w : World) (c1 q1 c2 q2 : Nat) (es fs : List ME) (h1 : CondAt w c1 0 1 q1) (k1 : QAt w q1 es) (i1 : ∀ e ∈ es, e.v.In w ∧ e.v.nodes ≤ 256) (h2 : CondAt w c2 0 1 q2) (k2 : QAt w q2 fs) (i2 : ∀ e ∈ fs, e.v.In w ∧ e.v.nodes ≤ 256) (hl1 : es.length ≤ 4096) (hl2 : fs.length ≤ 4096) :
    Calls Try.prog 50 #[.pointer (some ⟨c1, 0, none⟩), .pointer (some ⟨c2, 0, none⟩)] w (Tells (es.map ME.plain = fs.map ME.plain) w) := by
  have H1 := Lib.hid (fun W (hW : Touch [] w W) => h1.touch hW)
  have H2 := Lib.hid (fun W (hW : Touch [] w W) => h2.touch hW)
  have K1 := Lib.hid (fun W (hW : Touch [] w W) => k1.touch hW)
  have K2 := Lib.hid (fun W (hW : Touch [] w W) => k2.touch hW)
  have I1 := Lib.hid (fun W (hW : Touch [] w W) e (he : e ∈ es) => (And.intro ((i1 e he).1.touch0 hW) (i1 e he).2 : e.v.In W ∧ e.v.nodes ≤ 256))
  have I2 := Lib.hid (fun W (hW : Touch [] w W) e (he : e ∈ fs) => (And.intro ((i2 e he).1.touch0 hW) (i2 e he).2 : e.v.In W ∧ e.v.nodes ≤ 256))
  clear h1 h2 k1 k2 i1 i2
  refine (callsIn_wide (n := 0)).1 ?_
  refine callsIn_of_wp_marks Try.func50 rfl trivial ?_ rfl
  simp only [Try.ntmps50, List.size_toArray, List.length_cons, List.length_nil, Nat.reduceAdd, Nat.reduceSub, Array.replicate_succ, Array.replicate_zero, List.push_toArray, List.append_toArray, List.nil_append, List.cons_append]
  gi_wp2_with fail
  refine wpIn_scope_straight ?_
  refine wpIn_wide.2 ?_
  go_wp2_with fail
  refine wp_calls_name ?_
  intro w1 hw1
  have HL1 := Lib.hid ((Led.nil' w).al1 hw1)
  simp only [List.nil_append] at HL1
  obtain ⟨b3, hb3⟩ : ∃ b, w.heap.size = b := ⟨_, rfl⟩
  rw [hb3] at HL1 ⊢
  clear hw1 hb3
  obtain ⟨z0, fz, hz3, _, _⟩ := HL1.out.c1 0 rfl
  refine (cnone_no _ _ _ _ _ (H1.out w1 HL1.out.tch)).mono ?_
  rintro e w' ⟨rfl, rfl⟩
  go_wp2_with fail
  refine (cnone_no _ _ _ _ _ (H2.out w1 HL1.out.tch)).mono ?_
  rintro e w' ⟨rfl, rfl⟩
  have HLX := Lib.hid (fun W (hW : Touch [] w W) p (n : Nat) (hp : p = c1 ∧ n = es.length ∨ p = c2 ∧ n = fs.length) => (show Calls Try.prog 42 #[.pointer (some ⟨p, 0, none⟩)] W fun e w' => e = .returned (.int .i64 (n : Int)) ∧ W = w' from by
    rcases hp with ⟨rfl, rfl⟩ | ⟨rfl, rfl⟩
    · exact Len_c W p 0 1 q1 (H1.out W hW) es (K1.out W hW)
    · exact Len_c W p 0 1 q2 (H2.out W hW) fs (K2.out W hW)))
  have HD1 := Lib.hid HL1.out.tch.drew
  obtain ⟨d0, d1, d2, hd, _⟩ := (H1.out w1 HL1.out.tch).cells
  obtain ⟨g0, g1, g2, hg, _⟩ := (H2.out w1 HL1.out.tch).cells
  have hneq := neq_cells
  go_wp2_with fail
  go_region_held3 (fun w' => w'.cell? ⟨b3, 0, none⟩ = some (.pointer (some ⟨c2, 0, none⟩)) ∧ w'.cell? ⟨c1, 0, none⟩ = some (.int .i64 0) ∧ w'.cell? ⟨c1, 1, none⟩ = some (.int .i64 1) ∧ w'.cell? ⟨c2, 0, none⟩ = some (.int .i64 0) ∧ w'.cell? ⟨c2, 1, none⟩ = some (.int .i64 1)) (go_keep) (first
    | (go_at_call 42; refine (HLX.out _ HD1.out _ _ (by first | exact .inl ⟨rfl, rfl⟩ | exact .inr ⟨rfl, rfl⟩)).mono ?_; rintro e wn ⟨rfl, rfl⟩))
  rename_i hHeld
  clear hHeld hneq d0 d1 d2 hd g0 g1 g2 hg z0 fz hz3 HLX
  have HLD := Lib.hid (HL1.out.touch (Touch.refl [] w1).drew)
  clear HD1 HL1
  obtain ⟨w2, hw2⟩ : ∃ w2, w1.drew = w2 := ⟨_, rfl⟩
  rw [hw2] at HLD ⊢
  clear hw2
  by_cases hll : es.length = fs.length
  · have hlb : ((es.length : Int) != (fs.length : Int)) = false := by simp [hll]
    rw [hlb]
    go_wp2_with fail
    refine (All_c w2 c1 q1 es (H1.out _ HLD.out.tch) (K1.out _ HLD.out.tch) (I1.out _ HLD.out.tch) hl1).mono ?_
    rintro e w3 ⟨bx, ra, rc, ys, rfl, hpy, hL⟩
    have HL3 := Lib.hid (HLD.out.join hL)
    have HPY := Lib.hid hpy
    clear hpy hL HLD
    simp only [List.cons_append, List.nil_append] at HL3
    go_wp2_with fail
    refine (filter_c w3 _ _ _ _).mono ?_
    rintro e w4 ⟨bl, bi, rfl, hL⟩
    have HL4 := Lib.hid (HL3.out.join hL)
    clear hL HL3
    simp only [List.cons_append, List.nil_append] at HL4
    go_wp2_with fail
    refine wp_name ?_
    intro wz hwz
    have HLZ := Lib.hid (HL4.out.al1 hwz)
    simp only [List.cons_append, List.nil_append] at HLZ
    obtain ⟨b6, hb6⟩ : ∃ b, w4.heap.size = b := ⟨_, rfl⟩
    rw [hb6] at HLZ ⊢
    clear hwz hb6 HL4
    have HYL : Hid (ys.length = es.length) := by have := congrArg List.length HPY.out; unfold Hid; simpa using this
    have HYN : Hid (∀ y ∈ ys, y.v.nodes ≤ 256) := fun y hy => by
      have hmm : y.plain ∈ es.map ME.plain := by rw [← HPY.out]; exact List.mem_map_of_mem hy
      obtain ⟨r, hr, hpr⟩ := List.mem_map.1 hmm
      rw [plain_nodes_eq hpr]; exact (I1.out w (Touch.refl [] w) r hr).2
    have HF : Hid (FilterAt wz bl bi bx ra rc ys b3 c2 q2 fs) := ⟨(HLZ.out.box 2 rfl).cell 0, (HLZ.out.box 3 rfl).cell 0, HLZ.out.allAt 1 rfl, (HLZ.out.box 0 rfl).cell 0, H2.out _ HLZ.out.tch, K2.out _ HLZ.out.tch, I2.out _ HLZ.out.tch⟩
    have HB6 := Lib.hid (HLZ.out.box 4 rfl)
    have hb6 : b6 < wz.heap.size := HB6.out.lt
    have hb6w : w.heap.size ≤ b6 := by have := HLZ.out.boxge 4 rfl; simpa using this
    have HTZ := Lib.hid HLZ.out.tch
    clear HLZ H1 H2 K1 K2 I1 I2
    refine wp_label ?_
    go_wp2_with fail
    refine (wpIn_wide (n := 0)).1 ?_
    refine wp_range2 (β := Option (Bool × World)) rfl (enters_of Try.func112 (by kernel_rfl) rfl) (sdJ wz) (sdX wz b6 (es.map ME.plain = fs.map ME.plain))
      (fun b => b = none ∧ ∀ k, k < ys.length → (ys.map ME.plain)[k]? = (fs.map ME.plain)[k]?)
      (fun b xs b' => ∃ (k : Nat) (x : ME) (Wy : World), b = some (false, Wy) ∧ b' = some (true, Wy) ∧ xs = #[.int .i64 (k : Int), x.val] ∧ (ys.map ME.plain)[k]? = some x.plain ∧ ¬ (fs.map ME.plain)[k]? = some x.plain)
      (fun b xs b' ⟨_, _, _, _, _, hx, _⟩ => by rw [hx]; rfl) ?_ ?_ none ?_ ?_ ?_ ?_ ?_
    · rintro (_ | ⟨d, Wy⟩) W o h
      · exact Touch.putObj h (.inl (by omega)) o
      · exact ⟨h.1, h.2.1, h.2.2.1.putObj (.inr (by simp)) o, h.2.2.2⟩
    · rintro c b W o ⟨h1, h2, h3, h4, h5⟩
      exact ⟨h1, h2, h3.putObj (.inl (by omega)) o, h4.putObj (by omega) o, fun d Wy hb => (h5 d Wy hb).putObj (.inr (by simp)) o⟩
    · intro o
      exact ((Touch.refl [] wz).alloc _).alloc _
    · rintro b xs b' W ⟨k, x, Wy, rfl, rfl, rfl, hk1, hk2⟩ ⟨_, h1, h2, h3⟩ hlt
      have H1 := Lib.hid h1
      have H2 := Lib.hid h2
      have HK : Hid (¬ es.map ME.plain = fs.map ME.plain) := fun he => by rw [← he, ← HPY.out] at hk2; exact hk2 hk1
      clear h1 h2 hk1 hk2
      obtain ⟨D, hD⟩ : ∃ D, wz.heap.size = D := ⟨_, rfl⟩
      have HDD := Lib.hid hD
      rw [hD] at hlt h3 hb6 H2 ⊢
      clear hD
      rw [ent_eq]
      gi_wp2
      refine ⟨Kept.refl _ _, fun o => ?_⟩
      obtain ⟨W2, hW2⟩ : ∃ W2, W.putObj (D + 1) o = W2 := ⟨_, rfl⟩
      have HT2 : Hid (Touch [D + 1] Wy W2) := hW2 ▸ H2.out.putObj (.inr (by simp)) o
      rw [hW2]
      have hlt2 : D + 1 < W2.heap.size := by rw [← hW2]; simpa using hlt
      clear hW2 H2
      have HBb := Lib.hid ((HB6.out.touch H1.out (by simp)).touch HT2.out (by simp; omega))
      have g0 := HBb.out.cell 0
      have g1 := HBb.out.frozen 0
      have g2 := HBb.out.lt
      simp at g0
      gi_wp2
      have hs : Touch [b6] W2 (W2.setCell ⟨b6, 0, none⟩ (.bool false)) := (Touch.refl _ W2).setCell _ _ (.inl (by simp))
      refine ⟨hs.kept hlt2 (by simp; omega) (by simp; omega), rfl, HK.out, ?_, ?_, ?_⟩
      · exact ((H1.out.mono (S' := [b6]) (by simp)).trans HT2.out (by simp [HDD.out])).trans hs (by simp)
      · simpa using HBb.out.set 0 (.bool false)
      · intro d Wy' hb
        cases hb
        rw [HDD.out]
        exact (HT2.out.mono (S' := [b6, D + 1]) (by simp)).trans hs (by simp)
    · intro J' Jx' hJ' hC hJx' hCx hY' V hV
      have hN : ∀ W, J' none W → Touch [] wz W ∧ wz.heap.size + 1 < W.heap.size := fun W h => hJ' none W h
      have hkp : ∀ W W' S, wz.heap.size + 1 < W.heap.size → (∀ k ∈ S, wz.heap.size + 2 ≤ k) → Touch S W W' → Kept wz.heap.size W W' := fun W W' S h1 h2 h3 => h3.kept h1 (fun hc => by have := h2 _ hc; omega) (fun hc => by have := h2 _ hc; omega)
      refine CallsIn.mono (filter_iter (0 - 1) (wz.heap.size + 1) (wz.heap.size + 2) bl bi bx ra rc ys b3 c2 q2 fs (by have := HYL.out; omega) HYN.out (J' none) (Jx' none) (fun W h => ⟨HF.out.touch (hN W h).1, by have := (hN W h).2; omega⟩)
        (fun W W' S h hS ht => hC none W none W' h ((hN W h).1.trans ht (fun k hk => .inr (by have := hS k hk; omega))) (hkp W W' S (hN W h).2 hS ht))
        (fun W W' S h hS ht => ?_) (fun k x W hk1 hk2 h => ?_) V hV) ?_
      · obtain ⟨_, hlt⟩ := hJx' none W h
        refine hCx none W none W' h (fun c ⟨h1, h2, h3, h4, h5⟩ => ⟨h1, h2, h3.trans ht (fun k hk => .inr (by have := hS k hk; omega)), h4.touch ht (fun hc => by have := hS _ hc; omega), fun d Wy hb => by cases hb⟩) (hkp W W' S hlt hS ht)
      · obtain ⟨ht, hlt⟩ := hN W h
        refine YieldAt.mono' (yieldAt_wide (hY' (some (false, W)) _ (some (true, W)) W ⟨k, x, W, rfl, rfl, rfl, hk1, hk2⟩ (hC none W (some (false, W)) W h ⟨rfl, ht, Touch.refl _ _, hlt⟩ (Kept.refl _ _)))) ?_
        rintro e W2 (⟨rfl, hj⟩ | ⟨rfl, hj⟩)
        · have := (hJ' _ _ hj).1.1
          cases this
        · obtain ⟨⟨c, h1, h2, h3, h4, h5⟩, hlt2⟩ := hJx' _ _ hj
          have h6 := h5 true W rfl
          exact ⟨rfl, hCx _ W2 none W2 hj (fun c ⟨h1, h2, h3, h4, h5⟩ => ⟨h1, h2, h3, h4, fun d Wy hb => by cases hb⟩) (Kept.refl _ _), h6.size, fun b hb1 hb2 => h6.block b hb2 (by simp; omega)⟩
      · rintro e W ⟨hv, ⟨hj, hk⟩ | hx⟩
        · exact ⟨hv, .inl ⟨none, ⟨rfl, hk⟩, hj⟩⟩
        · exact ⟨hv, .inr ⟨none, hx⟩⟩
    · rintro b V ⟨rfl, hk⟩ hj hm hlt
      have hj' : Touch [] wz V := hj
      have HK : Hid (es.map ME.plain = fs.map ME.plain) := by
        rw [← HPY.out]
        exact plains_eq (by simp [HYL.out, hll]) (by simpa using hk)
      have HB := Lib.hid (HB6.out.touch hj' (by simp))
      have g0 := HB.out.cell 0
      have g2 := HB.out.lt
      simp at g0
      have HT := Lib.hid (HTZ.out.trans' hj')
      obtain ⟨D, hD⟩ : ∃ D, wz.heap.size = D := ⟨_, rfl⟩
      have hwD : w.heap.size ≤ D := by omega
      rw [hD] at hm hlt ⊢
      clear hj hj' hk
      gi_wp2
      go_wp2
      refine noGoto_ret' ?_
      refine leave_marks (v := .bool true) [D] _ (fun k hk => by simp at hk; subst hk; exact hm) (by simp) (by simp [shutAll, results, Try.results50, go_sem]) ⟨true, rfl, by simp [HK.out], HT.out.putObj (.inl (by omega)) _⟩
    · rintro c b V ⟨rfl, hn, ht, hb, _⟩ hm hlt
      have HN := Lib.hid hn
      have HB := Lib.hid hb
      have g0 := HB.out.cell 0
      have g2 := HB.out.lt
      simp at g0
      have HT := Lib.hid (HTZ.out.trans ht (fun k hk => .inr (by simp at hk; omega)))
      obtain ⟨D, hD⟩ : ∃ D, wz.heap.size = D := ⟨_, rfl⟩
      have hwD : w.heap.size ≤ D := by omega
      rw [hD] at hm hlt ⊢
      clear hn ht hb
      gi_wp2
      go_wp2
      refine noGoto_ret' ?_
      refine leave_marks (v := .bool false) [D] _ (fun k hk => by simp at hk; subst hk; exact hm) (by simp) (by simp [shutAll, results, Try.results50, go_sem]) ⟨false, rfl, by simp [HN.out], HT.out.putObj (.inl (by omega)) _⟩
  · have hlb : ((es.length : Int) != (fs.length : Int)) = true := by simp; omega
    rw [hlb]
    go_wp2
    refine noGoto_ret' ?_
    exact leave_marks (v := .bool false) [] _ (by simp) (by simp) (by simp [shutAll, results, Try.results50, go_sem]) (Tells.no (fun h => hll (by simpa using congrArg List.length h)) HLD.out.tch)
end Go.Proofs.Ytihmbgdkllmkaaa

/-
  Arguments that are values (trees) or entries, opened: MT with In, its parts no more than the bulk of what was read.
-/
namespace Go.Proofs.Ytihmbgdkllmkaaa
open Go.ChangeShapes Go.WideShapes Go.Deep Go.RowKit
set_option linter.unusedVariables false
set_option maxRecDepth 100000

theorem list_of_forall {α : Type} {p : Nat → α → Prop} : ∀ (n : Nat), (∀ i, i < n → ∃ x, p i x) → ∃ l : List α, l.length = n ∧ ∀ i (hi : i < l.length), p i l[i] := by
  intro n
  induction n with
  | zero => intro _; exact ⟨[], rfl, fun i hi => by simp at hi⟩
  | succ n ih =>
    intro h
    obtain ⟨l, hl, hp⟩ := ih (fun i hi => h i (by omega))
    obtain ⟨x, hx⟩ := h n (by omega)
    refine ⟨l ++ [x], by simp [hl], fun i hi => ?_⟩
    by_cases hin : i < l.length
    · rw [List.getElem_append_left hin]; exact hp i hin
    · have : i = n := by simp at hi; omega
      subst this
      rw [List.getElem_append_right (by omega)]
      simpa using hx
theorem add_add' (a : Addr) (i j : Nat) : (a.add i).add j = a.add (i + j) := by
  unfold Addr.add
  by_cases hi : i = 0 <;> by_cases hj : j = 0 <;> simp [hi, hj, Nat.add_assoc]
theorem list3 {α : Type} {l : List α} (h : l.length = 3) : ∃ a b c, l = [a, b, c] := by
  match l, h with
  | [a, b, c], _ => exact ⟨a, b, c, rfl⟩
theorem nodesAll_le {H : Type} (l : List MT) (ds : List (DataW H)) (hl : l.length = ds.length) (h : ∀ i (hi : i < l.length) (hd : i < ds.length), l[i].nodes ≤ Rows.uptoBulk ds[i]) : MT.nodesAll l ≤ Rows.uptoBulkAll ds := by
  induction l generalizing ds with
  | nil => simp [MT.nodesAll]
  | cons t r ih =>
    match ds, hl with
    | d :: ds, hl =>
      simp only [MT.nodesAll, Rows.uptoBulkAll]
      have h0 := h 0 (by simp) (by simp)
      have h1 := ih ds (by simpa using hl) (fun i hi hd => h (i + 1) (by simpa using hi) (by simpa using hd))
      simp only [List.getElem_cons_zero] at h0
      omega
theorem bulk_mem {H : Type} {d : DataW H} {l : List (DataW H)} (h : d ∈ l) : Rows.uptoBulk d ≤ Rows.uptoBulkAll l := by
  induction l with
  | nil => cases h
  | cons x r ih =>
    simp only [Rows.uptoBulkAll]
    rcases List.mem_cons.1 h with rfl | h
    · omega
    · have := ih h; omega
/-- Its numbers are words. -/
def ME.Fits (x : ME) : Prop := (-9223372036854775808 ≤ x.sync ∧ x.sync ≤ 9223372036854775807) ∧ (-9223372036854775808 ≤ x.thread ∧ x.thread ≤ 9223372036854775807) ∧ (-9223372036854775808 ≤ x.branch ∧ x.branch ≤ 9223372036854775807) ∧ (-9223372036854775808 ≤ x.flag ∧ x.flag ≤ 9223372036854775807)
section
variable {H : Type} {enc : TypeId × Value → H} {w : World} {base : Nat} {spare : Nat → Bool} {held : Bool}
theorem cells_val : Try.prog.cellsOf 25 = 3 := by kernel_rfl
theorem cells_int : Try.prog.cellsOf 3 = 1 := by kernel_rfl
theorem cells_kind : Try.prog.cellsOf 22 = 1 := by kernel_rfl
theorem cells_i64 : Try.prog.cellsOf 2 = 1 := by kernel_rfl
theorem cells_vals : Try.prog.cellsOf 23 = 1 := by kernel_rfl
theorem cells_ent : Try.prog.cellsOf 27 = 7 := by kernel_rfl
theorem open_val_cells : ∀ (N : Nat) (d : DataW H), Rows.uptoBulk d ≤ N → ∀ (fuel : Nat) (cs : List Value) (p : List MemPlace), DataW.trod enc Try.prog w base spare held fuel 25 cs = some (d, p) → ∃ t : MT, cs = t.cells ∧ t.In w ∧ t.nodes ≤ Rows.uptoBulk d := by
  intro N
  induction N with
  | zero => intro d hd fuel cs p h; obtain ⟨xs, n, _, hx, _⟩ := DataW.trod_struct Try.underlying25 h; injection hx with hx _; subst hx; simp [Rows.uptoBulk] at hd
  | succ N ih =>
    intro d hd fuel cs p h
    obtain ⟨xs, n, _, hx, hl, hlen, hf⟩ := DataW.trod_struct Try.underlying25 h
    injection hx with hx _
    subst hx
    rw [cells_val] at hl
    obtain ⟨c0, c1, c2, rfl⟩ := list3 hl
    obtain ⟨x0, x1, x2, rfl⟩ := list3 hlen
    have f0 : DataW.trod enc Try.prog w base spare held n 22 (List.take (Try.prog.cellsOf 22) (List.drop 0 [c0, c1, c2])) = some x0 := hf 0 _ rfl
    have f1 : DataW.trod enc Try.prog w base spare held n 2 (List.take (Try.prog.cellsOf 2) (List.drop 1 [c0, c1, c2])) = some x1 := hf 1 _ rfl
    have f2 : DataW.trod enc Try.prog w base spare held n 23 (List.take (Try.prog.cellsOf 23) (List.drop 2 [c0, c1, c2])) = some x2 := hf 2 _ rfl
    rw [cells_kind] at f0
    rw [cells_i64] at f1
    rw [cells_vals] at f2
    simp only [List.drop_zero, List.drop_succ_cons, List.take_succ_cons, List.take_zero] at f0 f1 f2
    obtain ⟨z0, hz0, hx0, _⟩ := DataW.trod_int Try.underlying22 f0
    obtain ⟨z1, hz1, hx1, _⟩ := DataW.trod_int Try.underlying2 f1
    injection hz0 with hz0 _
    injection hz1 with hz1 _
    subst hz0 hz1 hx0 hx1
    simp only [List.map_cons, List.map_nil, Rows.uptoBulk, Rows.uptoBulkAll] at hd ⊢
    rcases open_slice Try.underlying23 f2 with ⟨hcs, hx2⟩ | ⟨a, len, cap, m, n', D, Pl, hcs, hb, hlc, hm, hmm, hx2, hi⟩
    · injection hcs with hcs _
      subst hcs
      exact ⟨.mk z0 z1 none 0 [], rfl, MT.in_mk (by simp) (fun i hi => by simp at hi) (by simp), by simp [MT.nodes, MT.nodesAll]⟩
    · injection hcs with hcs _
      subst hcs
      have hlm : len ≤ m := by rw [hmm]; split <;> omega
      subst hx2
      simp only [Rows.uptoBulk] at hd ⊢
      obtain ⟨l, hll, hp⟩ := list_of_forall (p := fun i (t : MT) => (∀ j, j < 3 → w.cell? ((a.add (i * 3)).add j) = t.cells[j]?) ∧ t.In w ∧ t.nodes ≤ Rows.uptoBulk (D i)) len (fun i hil => by
        obtain ⟨cs', hc, ht'⟩ := hi i (by omega)
        rw [cells_val] at hc
        obtain ⟨_, hcl, hat⟩ := World.cells?_some hc
        have hbi : Rows.uptoBulk (D i) ≤ Rows.uptoBulkAll ((List.range len).map D) := bulk_mem (List.mem_map.2 ⟨i, List.mem_range.2 hil, rfl⟩)
        obtain ⟨t, rfl, ht1, ht2⟩ := ih (D i) (by omega) _ _ _ ht'
        exact ⟨t, hat, ht1, ht2⟩)
      subst hll
      refine ⟨.mk z0 z1 (some a) cap l, rfl, MT.in_mk (by simp only [maxLen] at hm; omega) (fun i hil => ?_) (fun t ht => ?_), ?_⟩
      · obtain ⟨hat, _, _⟩ := hp i hil
        obtain ⟨b, o, sp⟩ := a
        have hsp : sp = none := by
          obtain ⟨hat0, _, _⟩ := hp 0 (by omega)
          have h00 := hat0 0 (by omega)
          rw [add_add'] at h00
          have h01 : w.cell? ((⟨b, o, sp⟩ : Addr).add 0) = some (.int .i64 (l[0]'(by omega)).kind) := by simp only [Nat.zero_mul, Nat.add_zero] at h00; exact h00
          simpa [Addr.add] using World.cell?_spot h01
        subst hsp
        have h0 := hat 0 (by omega)
        rw [add_add', Addr.add_lit] at h0
        refine ⟨b, o, rfl, World.block_lt_of_cell? w _ (u := .int .i64 l[i].kind) h0, fun j hj => ?_⟩
        have := hat j hj
        rw [add_add', Addr.add_lit, ← Nat.add_assoc] at this
        exact this
      · obtain ⟨i, hil, rfl⟩ := List.mem_iff_getElem.1 ht
        exact (hp i hil).2.1
      · have := nodesAll_le l ((List.range l.length).map D) (by simp) (fun i hil hd => by simp; exact (hp i hil).2.2)
        simp only [MT.nodes]
        omega
theorem list7 {α : Type} {l : List α} (h : l.length = 7) : ∃ a b c d e f g, l = [a, b, c, d, e, f, g] := by
  match l, h with
  | [a, b, c, d, e, f, g], _ => exact ⟨a, b, c, d, e, f, g, rfl⟩
theorem list5 {α : Type} {l : List α} (h : l.length = 5) : ∃ a b c d e, l = [a, b, c, d, e] := by
  match l, h with
  | [a, b, c, d, e], _ => exact ⟨a, b, c, d, e, rfl⟩
theorem open_ent_cells (fuel : Nat) (cs : List Value) (d : DataW H) (p : List MemPlace) (h : DataW.trod enc Try.prog w base spare held fuel 27 cs = some (d, p)) : ∃ x : ME, cs = x.cells ∧ x.v.In w ∧ x.v.nodes ≤ Rows.uptoBulk d ∧ x.Fits := by
  obtain ⟨xs, n, _, hx, hl, hlen, hf⟩ := DataW.trod_struct Try.underlying27 h
  injection hx with hx _
  subst hx
  rw [cells_ent] at hl
  obtain ⟨c0, c1, c2, c3, c4, c5, c6, rfl⟩ := list7 hl
  obtain ⟨x0, x1, x2, x3, x4, rfl⟩ := list5 hlen
  have f0 : DataW.trod enc Try.prog w base spare held n 3 (List.take (Try.prog.cellsOf 3) (List.drop 0 [c0, c1, c2, c3, c4, c5, c6])) = some x0 := hf 0 _ rfl
  have f1 : DataW.trod enc Try.prog w base spare held n 3 (List.take (Try.prog.cellsOf 3) (List.drop 1 [c0, c1, c2, c3, c4, c5, c6])) = some x1 := hf 1 _ rfl
  have f2 : DataW.trod enc Try.prog w base spare held n 3 (List.take (Try.prog.cellsOf 3) (List.drop 2 [c0, c1, c2, c3, c4, c5, c6])) = some x2 := hf 2 _ rfl
  have f3 : DataW.trod enc Try.prog w base spare held n 3 (List.take (Try.prog.cellsOf 3) (List.drop 3 [c0, c1, c2, c3, c4, c5, c6])) = some x3 := hf 3 _ rfl
  have f4 : DataW.trod enc Try.prog w base spare held n 25 (List.take (Try.prog.cellsOf 25) (List.drop 4 [c0, c1, c2, c3, c4, c5, c6])) = some x4 := hf 4 _ rfl
  rw [cells_int] at f0 f1 f2 f3
  rw [cells_val] at f4
  simp only [List.drop_zero, List.drop_succ_cons, List.take_succ_cons, List.take_zero] at f0 f1 f2 f3 f4
  obtain ⟨z0, hz0, hx0, g0⟩ := DataW.trod_int Try.underlying3 f0
  obtain ⟨z1, hz1, hx1, g1⟩ := DataW.trod_int Try.underlying3 f1
  obtain ⟨z2, hz2, hx2, g2⟩ := DataW.trod_int Try.underlying3 f2
  obtain ⟨z3, hz3, hx3, g3⟩ := DataW.trod_int Try.underlying3 f3
  injection hz0 with hz0 _
  injection hz1 with hz1 _
  injection hz2 with hz2 _
  injection hz3 with hz3 _
  subst hz0 hz1 hz2 hz3
  obtain ⟨x4, p4⟩ := x4
  obtain ⟨t, ht, hin, hno⟩ := open_val_cells _ x4 (Nat.le_refl _) _ _ _ f4
  have ht' : c4 = .int .i64 t.kind ∧ c5 = .int .i64 t.num ∧ c6 = t.sl := by simpa [MT.cells] using ht
  obtain ⟨rfl, rfl, rfl⟩ := ht'
  refine ⟨⟨z0, z1, z2, z3, t⟩, rfl, hin, ?_, bounds_i64 g0, bounds_i64 g1, bounds_i64 g2, bounds_i64 g3⟩
  simp only [List.map_cons, List.map_nil, Rows.uptoBulk, Rows.uptoBulkAll]
  show t.nodes ≤ _
  omega
/-- An entry by value. -/
theorem open_ent {r : Reach} {b0 : Nat} {v : Value} {d : DataW H} {p : List MemPlace} (hv : Value.okWide Try.prog w r b0 27 v) (h : DataW.Trod enc Try.prog w base spare held 27 v d p) : ∃ x : ME, v = x.val ∧ x.v.In w ∧ x.v.nodes ≤ Rows.uptoBulk d ∧ x.Fits := by
  obtain ⟨cs, rfl, hsz⟩ := okWide_struct Try.underlying27 hv
  obtain ⟨fuel, hf⟩ := h
  obtain ⟨x, hx, h1, h2, h3⟩ := open_ent_cells fuel _ d p hf
  refine ⟨x, ?_, h1, h2, h3⟩
  have : cs = x.cells.toArray := by
    apply Array.ext'
    simpa [Value.cells] using hx
  rw [this]
  rfl
/-- Entries in a slice. -/
theorem open_ents {fuel : Nat} {c : Value} {d : DataW H} {p : List MemPlace} (h : DataW.trod enc Try.prog w base spare held fuel 32 [c] = some (d, p)) : ∃ (a : Option Addr) (cap : Nat) (l : List ME), c = .slice a l.length cap ∧ l.length ≤ maxLen ∧ EntsAt w a l ∧ ∀ x ∈ l, x.v.In w ∧ x.v.nodes ≤ Rows.uptoBulk d ∧ x.Fits := by
  rcases open_slice Try.underlying32 h with ⟨hcs, hx2⟩ | ⟨a, len, cap, m, n', D, Pl, hcs, hb, hlc, hm, hmm, hx2, hi⟩
  · injection hcs with hcs _
    subst hcs
    exact ⟨none, 0, [], rfl, by simp [maxLen], fun i hi => by simp at hi, by simp⟩
  · injection hcs with hcs _
    subst hcs
    have hlm : len ≤ m := by rw [hmm]; split <;> omega
    injection hx2 with hx2 _
    subst hx2
    obtain ⟨l, hll, hp⟩ := list_of_forall (p := fun i (t : ME) => (∀ j, j < 7 → w.cell? ((a.add (i * 7)).add j) = t.cells[j]?) ∧ t.v.In w ∧ t.v.nodes ≤ Rows.uptoBulk (D i) ∧ t.Fits) len (fun i hil => by
      obtain ⟨cs', hc, ht'⟩ := hi i (by omega)
      rw [cells_ent] at hc
      obtain ⟨_, hcl, hat⟩ := World.cells?_some hc
      obtain ⟨t, rfl, ht1, ht2, ht3⟩ := open_ent_cells _ _ _ _ ht'
      exact ⟨t, hat, ht1, ht2, ht3⟩)
    subst hll
    refine ⟨some a, cap, l, rfl, by omega, fun i hil => ?_, fun x hx => ?_⟩
    · obtain ⟨hat, _, _⟩ := hp i hil
      obtain ⟨b, o, sp⟩ := a
      have hsp : sp = none := by
        obtain ⟨hat0, _, _⟩ := hp 0 (by omega)
        have h00 := hat0 0 (by omega)
        rw [add_add'] at h00
        have h01 : w.cell? ((⟨b, o, sp⟩ : Addr).add 0) = some (.int .i64 (l[0]'(by omega)).sync) := by simp only [Nat.zero_mul, Nat.add_zero] at h00; exact h00
        simpa [Addr.add] using World.cell?_spot h01
      subst hsp
      have hc : ∀ j, j < 7 → w.cell? ⟨b, o + i * 7 + j, none⟩ = l[i].cells[j]? := fun j hj => by
        have := hat j hj
        rw [add_add', Addr.add_lit, ← Nat.add_assoc] at this
        exact this
      exact ⟨b, o, rfl, World.block_lt_of_cell? w _ (u := .int .i64 l[i].sync) (hc 0 (by omega)), hc 0 (by omega), hc 1 (by omega), hc 2 (by omega), hc 3 (by omega), hc 4 (by omega), hc 5 (by omega), hc 6 (by omega)⟩
    · obtain ⟨i, hil, rfl⟩ := List.mem_iff_getElem.1 hx
      obtain ⟨_, h1, h2, h3⟩ := hp i hil
      have hbi : Rows.uptoBulk (D i) ≤ Rows.uptoBulkAll ((List.range l.length).map D) := bulk_mem (List.mem_map.2 ⟨i, List.mem_range.2 hil, rfl⟩)
      refine ⟨h1, ?_, h3⟩
      simp only [Rows.uptoBulk]
      omega
end
end Go.Proofs.Ytihmbgdkllmkaaa

/-
  Arguments that are calls of law 15, opened: a slice of them, and two of them.
-/
namespace Go.Proofs.Ytihmbgdkllmkaaa
open Go.ChangeShapes Go.WideShapes Go.Deep Go.RowKit
set_option linter.unusedVariables false
set_option maxRecDepth 100000

theorem list8 {α : Type} {l : List α} (h : l.length = 8) : ∃ a b c d e f g i, l = [a, b, c, d, e, f, g, i] := by
  match l, h with
  | [a, b, c, d, e, f, g, i], _ => exact ⟨a, b, c, d, e, f, g, i, rfl⟩
theorem list2 {α : Type} {l : List α} (h : l.length = 2) : ∃ a b, l = [a, b] := by
  match l, h with
  | [a, b], _ => exact ⟨a, b, rfl⟩
theorem list16 {α : Type} {l : List α} (h : l.length = 16) : ∃ a0 a1 a2 a3 a4 a5 a6 a7 a8 a9 b0 b1 b2 b3 b4 b5, l = [a0, a1, a2, a3, a4, a5, a6, a7, a8, a9, b0, b1, b2, b3, b4, b5] := by
  match l, h with
  | [a0, a1, a2, a3, a4, a5, a6, a7, a8, a9, b0, b1, b2, b3, b4, b5], _ => exact ⟨a0, a1, a2, a3, a4, a5, a6, a7, a8, a9, b0, b1, b2, b3, b4, b5, rfl⟩
/-- Two calls, as one value. -/
def twoCells15 (x y : CA) : Array Value := (x.cells ++ y.cells).toArray
def twoVal15 (x y : CA) : Value := .agg (twoCells15 x y)
section
variable {H : Type} {enc : TypeId × Value → H} {w : World} {base : Nat} {spare : Nat → Bool} {held : Bool}
theorem cells_act15 : Try.prog.cellsOf 85 = 8 := by kernel_rfl
theorem cells_two15 : Try.prog.cellsOf 97 = 16 := by kernel_rfl
/-- What an opened call is. -/
def CA.Opened (x : CA) (w : World) (N : Nat) : Prop := x.e.v.In w ∧ x.e.v.nodes ≤ N
theorem open_act15_cells (fuel : Nat) (cs : List Value) (d : DataW H) (p : List MemPlace) (h : DataW.trod enc Try.prog w base spare held fuel 85 cs = some (d, p)) : ∃ x : CA, cs = x.cells ∧ x.Opened w (Rows.uptoBulk d) := by
  obtain ⟨xs, n, _, hx, hl, hlen, hf⟩ := DataW.trod_struct Try.underlying85 h
  injection hx with hx _
  subst hx
  rw [cells_act15] at hl
  obtain ⟨c0, c1, c2, c3, c4, c5, c6, c7, rfl⟩ := list8 hl
  obtain ⟨x0, x1, rfl⟩ := list2 hlen
  have f0 : DataW.trod enc Try.prog w base spare held n 3 (List.take (Try.prog.cellsOf 3) (List.drop 0 [c0, c1, c2, c3, c4, c5, c6, c7])) = some x0 := hf 0 _ rfl
  have f1 : DataW.trod enc Try.prog w base spare held n 27 (List.take (Try.prog.cellsOf 27) (List.drop 1 [c0, c1, c2, c3, c4, c5, c6, c7])) = some x1 := hf 1 _ rfl
  rw [cells_int] at f0
  rw [cells_ent] at f1
  simp only [List.drop_zero, List.drop_succ_cons, List.take_succ_cons, List.take_zero] at f0 f1
  obtain ⟨z0, hz0, hx0, g0⟩ := DataW.trod_int Try.underlying3 f0
  injection hz0 with hz0 _
  subst hz0
  obtain ⟨x1, p1⟩ := x1
  obtain ⟨e, he, h1, h2, _⟩ := open_ent_cells _ _ _ _ f1
  refine ⟨⟨z0, e⟩, ?_, h1, ?_⟩
  · simp only [CA.cells]; rw [← he]
  · show e.v.nodes ≤ _
    simp only [List.map_cons, List.map_nil, Rows.uptoBulk, Rows.uptoBulkAll]
    omega
/-- Calls in a slice. -/
theorem open_acts15 {fuel : Nat} {c : Value} {d : DataW H} {p : List MemPlace} (h : DataW.trod enc Try.prog w base spare held fuel 86 [c] = some (d, p)) : ∃ (a : Option Addr) (cap : Nat) (l : List CA), c = .slice a l.length cap ∧ l.length ≤ maxLen ∧ CAsAt w a l ∧ ∀ x ∈ l, x.Opened w (Rows.uptoBulk d) := by
  rcases open_slice Try.underlying86 h with ⟨hcs, hx2⟩ | ⟨a, len, cap, m, n', D, Pl, hcs, hb, hlc, hm, hmm, hx2, hi⟩
  · injection hcs with hcs _
    subst hcs
    exact ⟨none, 0, [], rfl, by simp [maxLen], fun i hi => by simp at hi, by simp⟩
  · injection hcs with hcs _
    subst hcs
    have hlm : len ≤ m := by rw [hmm]; split <;> omega
    injection hx2 with hx2 _
    subst hx2
    obtain ⟨l, hll, hp⟩ := list_of_forall (p := fun i (t : CA) => (∀ j, j < 8 → w.cell? ((a.add (i * 8)).add j) = t.cells[j]?) ∧ t.Opened w (Rows.uptoBulk (D i))) len (fun i hil => by
      obtain ⟨cs', hc, ht'⟩ := hi i (by omega)
      rw [cells_act15] at hc
      obtain ⟨_, hcl, hat⟩ := World.cells?_some hc
      obtain ⟨t, rfl, ht1⟩ := open_act15_cells _ _ _ _ ht'
      exact ⟨t, hat, ht1⟩)
    subst hll
    refine ⟨some a, cap, l, rfl, by omega, fun i hil => ?_, fun x hx => ?_⟩
    · obtain ⟨hat, _⟩ := hp i hil
      obtain ⟨b, o, sp⟩ := a
      have hsp : sp = none := by
        obtain ⟨hat0, _⟩ := hp 0 (by omega)
        have h00 := hat0 0 (by omega)
        rw [add_add'] at h00
        have h01 : w.cell? ((⟨b, o, sp⟩ : Addr).add 0) = some (.int .i64 (l[0]'(by omega)).what) := by simp only [Nat.zero_mul, Nat.add_zero] at h00; exact h00
        simpa [Addr.add] using World.cell?_spot h01
      subst hsp
      have hc : ∀ j, j < 8 → w.cell? ⟨b, o + i * 8 + j, none⟩ = l[i].cells[j]? := fun j hj => by
        have := hat j hj
        rw [add_add', Addr.add_lit, ← Nat.add_assoc] at this
        exact this
      exact ⟨b, o, rfl, World.block_lt_of_cell? w _ (u := .int .i64 l[i].what) (hc 0 (by omega)), hc 0 (by omega), hc 1 (by omega), hc 2 (by omega), hc 3 (by omega), hc 4 (by omega), hc 5 (by omega), hc 6 (by omega), hc 7 (by omega)⟩
    · obtain ⟨i, hil, rfl⟩ := List.mem_iff_getElem.1 hx
      obtain ⟨_, h1, h2⟩ := hp i hil
      have hbi : Rows.uptoBulk (D i) ≤ Rows.uptoBulkAll ((List.range l.length).map D) := bulk_mem (List.mem_map.2 ⟨i, List.mem_range.2 hil, rfl⟩)
      refine ⟨h1, ?_⟩
      simp only [Rows.uptoBulk]
      omega
/-- Such an argument. -/
theorem open_acts15_arg {r : Reach} {b0 : Nat} {v : Value} {d : DataW H} {p : List MemPlace} (hv : Value.okWide Try.prog w r b0 86 v) (h : DataW.Trod enc Try.prog w base spare held 86 v d p) : ∃ (a : Option Addr) (cap : Nat) (l : List CA), v = .slice a l.length cap ∧ l.length ≤ maxLen ∧ CAsAt w a l ∧ ∀ x ∈ l, x.Opened w (Rows.uptoBulk d) := by
  obtain ⟨a, len, cap, rfl⟩ := okWide_slice Try.underlying86 hv
  obtain ⟨fuel, hf⟩ := h
  exact open_acts15 (c := .slice a len cap) hf
theorem open_two15 {r : Reach} {b0 : Nat} {v : Value} {d : DataW H} {p : List MemPlace} (hv : Value.okWide Try.prog w r b0 97 v) (h : DataW.Trod enc Try.prog w base spare held 97 v d p) : ∃ x y : CA, v = twoVal15 x y ∧ ∀ z ∈ [x, y], z.Opened w (Rows.uptoBulk d) := by
  simp only [Value.okWide, Try.underlying97] at hv
  obtain ⟨cs, rfl, hsz, _⟩ := hv
  obtain ⟨fuel, hf⟩ := h
  obtain ⟨xs, n, _, hx, hl, hlen, hfe⟩ := DataW.trod_array Try.underlying97 hf
  injection hx with hx _
  subst hx
  rw [cells_two15] at hl
  obtain ⟨a0, a1, a2, a3, a4, a5, a6, a7, a8, a9, b0, b1, b2, b3, b4, b5, hcs⟩ := list16 hl
  obtain ⟨x0, x1, rfl⟩ := list2 hlen
  have f0 := hfe 0 (by omega)
  have f1 := hfe 1 (by omega)
  rw [hcs, cells_act15] at f0 f1
  simp only [Nat.zero_mul, Nat.one_mul, List.drop_zero, List.drop_succ_cons, List.take_succ_cons, List.take_zero, List.getElem?_cons_zero, List.getElem?_cons_succ] at f0 f1
  obtain ⟨d0, p0⟩ := x0
  obtain ⟨d1, p1⟩ := x1
  obtain ⟨x, hx, hxo⟩ := open_act15_cells _ _ _ _ f0
  obtain ⟨y, hy, hyo⟩ := open_act15_cells _ _ _ _ f1
  refine ⟨x, y, ?_, fun z hz => ?_⟩
  · have : cs = twoCells15 x y := by
      have h2 : cs.toList = (twoCells15 x y).toList := by
        have h3 : cs.toList = [a0, a1, a2, a3, a4, a5, a6, a7] ++ [a8, a9, b0, b1, b2, b3, b4, b5] := by simpa [Value.cells] using hcs
        rw [h3, hx, hy]; simp [twoCells15]
      exact Array.ext' h2
    rw [this]
    rfl
  · simp only [List.map_cons, List.map_nil, Rows.uptoBulk, Rows.uptoBulkAll]
    simp at hz
    rcases hz with rfl | rfl
    · exact ⟨hxo.1, by have := hxo.2; omega⟩
    · exact ⟨hyo.1, by have := hyo.2; omega⟩
end
end Go.Proofs.Ytihmbgdkllmkaaa

/-
  CondCopies (betrothallaw15/law.go): its walk: for all calls it returns true, and nothing that was there has turned.
-/
namespace Go.Proofs.Ytihmbgdkllmkaaa
open Go.RowKit Go.Shelf
set_option maxRecDepth 100000
set_option linter.unusedVariables false
set_option linter.unusedSimpArgs false

theorem two15_eq (x y : CA) : twoVal15 x y = .agg #[.int .i64 x.what, .int .i64 x.e.sync, .int .i64 x.e.thread, .int .i64 x.e.branch, .int .i64 x.e.flag, .int .i64 x.e.v.kind, .int .i64 x.e.v.num, .slice x.e.v.addr x.e.v.parts.length x.e.v.cap, .int .i64 y.what, .int .i64 y.e.sync, .int .i64 y.e.thread, .int .i64 y.e.branch, .int .i64 y.e.flag, .int .i64 y.e.v.kind, .int .i64 y.e.v.num, .slice y.e.v.addr y.e.v.parts.length y.e.v.cap] := rfl
def boxT (b : Nat) (x y : CA) : Thing := box b 97 (twoCells15 x y)
theorem boxT_eq (b : Nat) (x y : CA) : boxT b x y = box b 97 #[.int .i64 x.what, .int .i64 x.e.sync, .int .i64 x.e.thread, .int .i64 x.e.branch, .int .i64 x.e.flag, .int .i64 x.e.v.kind, .int .i64 x.e.v.num, .slice x.e.v.addr x.e.v.parts.length x.e.v.cap, .int .i64 y.what, .int .i64 y.e.sync, .int .i64 y.e.thread, .int .i64 y.e.branch, .int .i64 y.e.flag, .int .i64 y.e.v.kind, .int .i64 y.e.v.num, .slice y.e.v.addr y.e.v.parts.length y.e.v.cap] := rfl
theorem Led.two15 {T : List Nat} {w0 w : World} {l : List Thing} {b : Nat} {x y : CA} (h : Led T w0 w l) (i : Nat) (hi : l[i]? = some (boxT b x y)) : CAAt w b 0 x ∧ CAAt w b 8 y ∧ b < w.heap.size := by
  have hb := h.box i hi
  exact ⟨⟨hb.cell 0, hb.cell 1, hb.cell 2, hb.cell 3, hb.cell 4, hb.cell 5, hb.cell 6, hb.cell 7⟩, ⟨hb.cell 8, hb.cell 9, hb.cell 10, hb.cell 11, hb.cell 12, hb.cell 13, hb.cell 14, hb.cell 15⟩, hb.lt⟩
theorem two15_at {w : World} {b : Nat} {x y : CA} (h0 : CAAt w b 0 x) (h1 : CAAt w b 8 y) (hb : b < w.heap.size) : CAsAt w (some ⟨b, 0, none⟩) [x, y] := by
  intro i hi
  have : i = 0 ∨ i = 1 := by simp at hi; omega
  rcases this with rfl | rfl
  · exact ⟨b, 0, rfl, hb, h0⟩
  · exact ⟨b, 0, rfl, hb, h1⟩
/-- The call that is made of it. -/
def CA.norm (x : CA) : CA := if x.what > 3 ∨ x.what < 0 then ⟨3, x.e⟩ else x
theorem CA.norm_e (x : CA) : x.norm.e = x.e := by unfold CA.norm; split <;> rfl
theorem CA.norm_what (x : CA) : (x.norm.what = 0 ∨ x.norm.what = 1 ∨ x.norm.what = 2) ∨ x.norm.what = 3 := by
  unfold CA.norm; split
  · exact .inr rfl
  · rename_i h; omega
theorem MT.In.old {w W : World} {t : MT} (h : t.In w) (ho : Old w W) : t.In W := h.keep (fun k hk => ho k (h.lt k hk))
/-- A call of Wait or Next, in a greater ledger. -/
theorem Led.turn15 {T : List Nat} {w0 w : World} {P : World → Prop} {c q bx g : Nat} {es rs : List ME} {a : Option Addr} {cap : Nat} {s : Ar} {vc vl : Value} {r : List Thing} (h : Led T w0 w (L15 c q es P bx g s vc vl a rs.length cap ++ r)) (x : CA) (hB : Both13 P es rs a cap) (hx : x.e.v.nodes ≤ 20 ∧ ∀ W, P W → x.e.v.In W) (hw : (x.what = 0 ∨ x.what = 1 ∨ x.what = 2) ∨ x.what = 3) :
    Calls Try.prog 52 #[.pointer (some ⟨bx, 0, none⟩), x.val] w fun e w' => ∃ (es2 rs2 : List ME) (a2 : Option Addr) (cap2 : Nat) (P2 : World → Prop), e = .returned (.bool true) ∧ Both13 P2 es2 rs2 a2 cap2 ∧ (∀ W, P2 W → P W) ∧ Led T w0 w' (L15 c q es2 P2 bx g s vc vl a2 rs2.length cap2 ++ r) := by
  obtain ⟨T', h1, hb⟩ := h.frameFront
  rcases hw with hw | hw
  · refine (act15_wait T' w P c q bx g es rs a cap s vc vl x h1 hB hx hw).mono ?_
    rintro e w' ⟨es2, rs2, a2, cap2, P2, rfl, h2, h3, h4⟩
    exact ⟨es2, rs2, a2, cap2, P2, rfl, h2, h3, hb _ _ h4⟩
  · refine (act15_next T' w P c q bx g es rs a cap s vc vl x h1 hB hx hw).mono ?_
    rintro e w' ⟨es2, rs2, a2, cap2, P2, rfl, h2, h3, h4⟩
    exact ⟨es2, rs2, a2, cap2, P2, rfl, h2, h3, hb _ _ h4⟩
/-- Any call, in a greater ledger. -/
theorem Led.act15' {T : List Nat} {w0 w : World} {P : World → Prop} {c q bx g : Nat} {es rs : List ME} {a : Option Addr} {cap : Nat} {s : Ar} {vc vl : Value} {r : List Thing} {N : Nat} (h : Led T w0 w (L15 c q es P bx g s vc vl a rs.length cap ++ r)) (x : CA) (hB : Both13 P es rs a cap) (hs : Two s N) (hN : N < 1000000) (hx : x.e.v.nodes ≤ 20 ∧ ∀ W, P W → x.e.v.In W) :
    Calls Try.prog 52 #[.pointer (some ⟨bx, 0, none⟩), x.val] w fun e w' => ∃ (c2 q2 : Nat) (es2 rs2 : List ME) (a2 : Option Addr) (cap2 : Nat) (P2 : World → Prop) (s2 : Ar) (vc2 vl2 : Value), e = .returned (.bool true) ∧ Both13 P2 es2 rs2 a2 cap2 ∧ (∀ W, P2 W → P W) ∧ Two s2 (N + 1) ∧ Led T w0 w' (L15 c2 q2 es2 P2 bx g s2 vc2 vl2 a2 rs2.length cap2 ++ r) := by
  obtain ⟨T', h1, hb⟩ := h.frameFront
  refine (act15 T' w P c q bx g es rs a cap s vc vl N x h1 hB hs hN hx).mono ?_
  rintro e w' ⟨c2, q2, es2, rs2, a2, cap2, P2, s2, vc2, vl2, rfl, h2, h3, h4, h5⟩
  exact ⟨c2, q2, es2, rs2, a2, cap2, P2, s2, vc2, vl2, rfl, h2, h3, h4, hb _ _ h5⟩
theorem Led.is15' {T : List Nat} {w0 w : World} {P : World → Prop} {c q bx g : Nat} {es rs : List ME} {a : Option Addr} {cap : Nat} {s : Ar} {vc vl : Value} {r : List Thing} {N many : Nat} (h : Led T w0 w (L15 c q es P bx g s vc vl a rs.length cap ++ r)) (hB : Both13 P es rs a cap) (hs : Two s N) (hN : N < 1000000) (hm : many ≤ 10000) :
    Calls Try.prog 53 #[.pointer (some ⟨bx, 0, none⟩), .int .i64 (many : Int)] w fun e w' => e = .returned (.bool true) ∧ Touch [] w w' := by
  obtain ⟨T', h1, hb⟩ := h.frameFront
  exact is15 T' w P c q bx g es rs a cap s vc vl N many h1 hB hs hN hm
theorem exit_name {Q : Exit → Act → World → Prop} {ex : Exit} {a : Act} {W : World} (h : ∀ w2, W = w2 → Q ex a w2) : Q ex a W := h W rfl
theorem both15_0 (P : World → Prop) : Both13 P [] [] none 0 := ⟨rfl, Nat.zero_le _, Nat.zero_le _, by simp, fun W _ => ⟨by simp, fun i hi => by simp at hi, by simp⟩⟩
/-- What lies there of the loop over the calls. -/
def ccL (c q : Nat) (es : List ME) (P : World → Prop) (bx g : Nat) (s : Ar) (vc vl : Value) (a : Option Addr) (n cap b3 : Nat) (x y : CA) : List Thing := L15 c q es P bx g s vc vl a n cap ++ [boxT b3 x y]
theorem Both13.weak15 {P P1 : World → Prop} {es rs : List ME} {a : Option Addr} {cap : Nat} (h : Both13 P es rs a cap) (hP : ∀ W, P1 W → P W) : Both13 P1 es rs a cap := ⟨h.1, h.2.1, h.2.2.1, h.2.2.2.1, fun W hW => h.2.2.2.2 W (hP W hW)⟩
/-- What lies there behind the copy. -/
def ccR (c q : Nat) (es : List ME) (P : World → Prop) (q2 : Nat) (ys : List ME) (c2 bx g : Nat) (s : Ar) (vc vl : Value) (a : Option Addr) (n cap b3 : Nat) (x y : CA) (b9 b10 al : Nat) (v : Value) (zs : List ME) : List Thing :=
  [box c 90 #[.int .i64 0, .int .i64 1, .pointer (some ⟨q, 0, none⟩)], queueT q es, stillT P, queueT q2 ys, box c2 90 #[.int .i64 0, .int .i64 1, .pointer (some ⟨q2, 0, none⟩)], box bx 105 (bothC g c vc s.most vl a n cap), arena g s, refT vc vl s, boxT b3 x y, box b9 103 #[.int .i64 0, .slice a n cap], box b10 105 (bothC g c2 vc s.most vl a n cap), allT al v zs]
theorem two15_put0 (x y : CA) : (twoCells15 x y).setIfInBounds 0 (.int .i64 3) = twoCells15 ⟨3, x.e⟩ y := rfl
theorem two15_put8 (x y : CA) : (twoCells15 x y).setIfInBounds 8 (.int .i64 3) = twoCells15 x ⟨3, y.e⟩ := rfl
theorem CA.norm_of (x : CA) (h : x.what > 3 ∨ x.what < 0) : x.norm = ⟨3, x.e⟩ := by unfold CA.norm; rw [if_pos h]
theorem CA.norm_not (x : CA) (h : ¬ (x.what > 3 ∨ x.what < 0)) : x.norm = x := by unfold CA.norm; rw [if_neg h]
set_option maxHeartbeats 40000000 in
theorem condCopies_any (w : World) (a0 : Option Addr) (c0 : Nat) (l : List CA) (x0 y0 : CA) (ha : CAsAt w a0 l) (hin : ∀ x ∈ l, x.e.v.In w ∧ x.e.v.nodes ≤ 1048576) (hl : l.length ≤ 9223372036854775807) (hy : ∀ x ∈ [x0, y0], x.e.v.In w ∧ x.e.v.nodes ≤ 1048576) :
    Calls Try.prog 10 #[.slice a0 l.length c0, twoVal15 x0 y0] w fun e w' => e = .returned (.bool true) ∧ Below w.heap.size w w' := by
  have HA := Lib.hid ha
  have HI := Lib.hid hin
  have HY := Lib.hid hy
  have HL0 := Lib.hid (Led.old0 w)
  generalize hTT : List.range w.heap.size = T at HL0
  clear ha hin hTT hy
  rw [two15_eq]
  go_enter Try.func10, Try.ntmps10
  go_wp2_with fail
  refine wp_calls_name ?_
  intro w1 hw1
  have HL1 := Lib.hid (HL0.out.al1 hw1)
  simp only [List.nil_append, List.cons_append, ← boxT_eq] at HL1
  obtain ⟨b3, hb3⟩ : ∃ b, w.heap.size = b := ⟨_, rfl⟩
  rw [hb3] at HL1 ⊢
  clear hw1 hb3 HL0
  have HTw := Lib.hid (HL1.out.oldTouch (HL1.out.still 0 rfl))
  refine (few15 w1 a0 c0 l 30 hl (HA.out.touch HTw.out) (fun x hx => ⟨(HI.out x hx).1.touch0 HTw.out, (HI.out x hx).2⟩)).mono ?_
  rintro e w2 ⟨cc, rfl, hcc, ht⟩
  have HL2 := Lib.hid (HL1.out.touch ht)
  have HCC := Lib.hid hcc
  clear hcc ht HL1 HTw
  cases cc with
  | false =>
    go_wp2_with fail
    refine (works15 _).mono ?_
    rintro e w9 ⟨rfl, ht⟩
    have HL9 := Lib.hid (HL2.out.touch ht)
    clear ht
    go_wp2
    go_ret
    exact ⟨rfl, (HL9.out.oldTouch (HL9.out.still 0 rfl)).below⟩
  | true =>
    have HFW := Lib.hid (HCC.out.1 rfl).2
    have hl30 : l.length ≤ 30 := by have := (HCC.out.1 rfl).1; omega
    clear HCC
    have HTw := Lib.hid (HL2.out.oldTouch (HL2.out.still 0 rfl))
    have HAT := Lib.hid (HL2.out.two15 1 rfl)
    have HF2 := Lib.hid (few15 w2 (some ⟨b3, 0, none⟩) 2 [x0, y0] 2 (by simp) (two15_at HAT.out.1 HAT.out.2.1 HAT.out.2.2) (fun x hx => ⟨(HY.out x hx).1.touch0 HTw.out, (HY.out x hx).2⟩))
    simp only [List.length_cons, List.length_nil, Nat.reduceAdd] at HF2
    clear HAT
    go_wp2_with fail
    refine HF2.out.mono ?_
    rintro e w3 ⟨cc, rfl, hcc, ht⟩
    have HL3 := Lib.hid (HL2.out.touch ht)
    have HCC := Lib.hid hcc
    clear hcc ht HL2 HTw HF2
    cases cc with
    | false =>
      go_wp2_with fail
      refine (works15 _).mono ?_
      rintro e w9 ⟨rfl, ht⟩
      have HL9 := Lib.hid (HL3.out.touch ht)
      clear ht
      go_wp2
      go_ret
      exact ⟨rfl, (HL9.out.oldTouch (HL9.out.still 0 rfl)).below⟩
    | true =>
      have HFY := Lib.hid (HCC.out.1 rfl).2
      clear HCC
      go_wp2_with fail
      refine (made15 w3).mono ?_
      rintro e w4 ⟨g, c, q, vc, vl, rfl, hL⟩
      have HL4 := Lib.hid (HL3.out.join hL)
      simp only [List.nil_append, List.cons_append] at HL4
      clear hL HL3
      obtain ⟨ca, cp, rfl, _, _⟩ := own_val (HL4.out.refAt 6 rfl).cel
      obtain ⟨la, lp, rfl, _, _⟩ := own_val (HL4.out.refAt 6 rfl).log
      go_wp2_with fail
      refine wp_name ?_
      intro w5 hw5
      have HL5 := Lib.hid ((HL4.out.al1 hw5).sel [2, 3, 0, 7, 5, 6, 1] (l' := ccL c q [] (Old w) w4.heap.size g (twoC 9 0 0 []) _ _ none 0 0 b3 x0 y0) rfl (by decide))
      obtain ⟨bx, hbx⟩ : ∃ b, w4.heap.size = b := ⟨_, rfl⟩
      rw [hbx] at HL5 ⊢
      clear hw5 hbx HL4
      go_loopw [8] (fun i wr => ∃ (k c q : Nat) (es rs : List ME) (a : Option Addr) (cap : Nat) (P : World → Prop) (s : Ar) (vc vl : Value), i = .int .i64 (k : Int) ∧ k ≤ l.length ∧ Hid (Both13 P es rs a cap) ∧ Hid (∀ W, P W → Old w W) ∧ Hid (Two s k) ∧ Hid (Led T w wr (ccL c q es P bx g s vc vl a rs.length cap b3 x0 y0))) (fun i _ => l.length - (intOf i).toNat)
      case atStart => exact ⟨0, c, q, [], [], none, 0, Old w, twoC 9 0 0 [], _, _, rfl, Nat.zero_le _, both15_0 _, fun W h => h, ⟨0, 0, [], rfl, by omega, by omega, by simp⟩, HL5⟩
      case round =>
        obtain ⟨k, c, q, es, rs, a, cap, P, s, vc, vl, rfl, hk, HB, HO, HS, HK⟩ := hrel
        clear HL5
        have hk0 : (0 : Int) ≤ (k : Int) := by omega
        by_cases hkl : k < l.length
        · have hkl' : (k : Int) < (l.length : Int) := by omega
          have HTw := Lib.hid (HK.out.oldTouch (HO.out _ (HK.out.still 2 rfl)))
          obtain ⟨b, o, rfl, hb, d0, d1, d2, d3, d4, d5, d6, d7⟩ := (HA.out.touch HTw.out) k hkl
          have HXI := Lib.hid (HI.out _ (List.getElem_mem hkl)).1
          have HXF := Lib.hid (HFW.out _ (List.getElem_mem hkl))
          generalize l[k] = x at d0 d1 d2 d3 d4 d5 d6 d7 HXI HXF
          have HAC := Lib.hid (Led.act15' (r := [boxT b3 x0 y0]) HK.out x HB.out HS.out (by omega) ⟨HXF.out, fun W hW => HXI.out.old (HO.out W hW)⟩)
          unfold CA.val at HAC
          go_wp2_with fail
          refine HAC.out.mono ?_
          rintro e w6 ⟨c2, q2, es2, rs2, a2, cap2, P2, s2, vc2, vl2, rfl, hB2, hP2, hS2, hL⟩
          have HL6 := Lib.hid hL
          have HB2 := Lib.hid hB2
          have HS2 := Lib.hid hS2
          have HO2 : Hid (∀ W, P2 W → Old w W) := fun W hW => HO.out W (hP2 W hW)
          clear hL hB2 hP2 hS2 d0 d1 d2 d3 d4 d5 d6 d7 hb HAC HTw HK HB HO HS
          go_wp2
          go_roundw
          case rel => exact ⟨k + 1, c2, q2, es2, rs2, a2, cap2, P2, s2, vc2, vl2, by go_num, hkl, HB2, HO2, HS2, HL6⟩
          case measure => simp [intOf]; omega
        · have hkl' : ¬ (k : Int) < (l.length : Int) := by omega
          have HK30 : Hid (k < 1000) := by unfold Hid; omega
          obtain ⟨ca, cp, rfl, _, _⟩ := own_val (HK.out.refAt 5 rfl).cel
          obtain ⟨la, lp, rfl, _, _⟩ := own_val (HK.out.refAt 5 rfl).log
          simp only [ccL, L15, condL, bothC, List.cons_append, List.nil_append] at HK
          obtain ⟨y0', y1', y2', y3', y4', y5', y6', _, hlx, _, _⟩ := HK.out.c7 3 rfl
          go_upto_region 12 with fail
          refine wp_name ?_
          intro w2 hw2
          have HL2 := Lib.hid (HK.out.al1 hw2)
          simp only [List.nil_append, List.cons_append] at HL2
          obtain ⟨b9, hb9⟩ : ∃ b, wr.heap.size = b := ⟨_, rfl⟩
          rw [hb9] at HL2 ⊢
          clear hw2 hb9 HK y0' y1' y2' y3' y4' y5' y6' hlx
          obtain ⟨y0', y1', y2', y3', y4', y5', y6', _, hlx, _, _⟩ := HL2.out.c7 3 rfl
          have HCC := Lib.hid (fun W r (h : Led T w W (condL c q es P ++ r)) => (show Calls Try.prog 49 #[.pointer (some ⟨c, 0, none⟩)] W fun e w' => ∃ (c2 q2 : Nat) (ys : List ME), e = .returned (.pointer (some ⟨c2, 0, none⟩)) ∧ ys.map ME.plain = es.map ME.plain ∧ Led T w w' (condL c q es (fun W => P W ∧ ∀ y ∈ ys, y.v.In W) ++ [queueT q2 ys, box c2 90 #[.int .i64 0, .int .i64 1, .pointer (some ⟨q2, 0, none⟩)]] ++ r) from by
            obtain ⟨T', hF, hbk⟩ := h.frameFront
            refine (Copy_cS T' W c q es P hF (fun W hW => (HB.out.2.2.2.2 W hW).1) HB.out.2.2.2.1 HB.out.2.2.1).mono ?_
            rintro e w' ⟨c2, q2, ys, rfl, hpl, hL⟩
            exact ⟨c2, q2, ys, rfl, hpl, hbk _ _ hL⟩))
          have HLa := Lib.hid HL2.out.drew
          have HLb := Lib.hid (HL2.out.alloc 105 #[.pointer none, .pointer none, .slice none 0 0, .int .i64 0, .slice none 0 0, .int .i64 0, .slice none 0 0]).drew
          simp only [List.nil_append, List.cons_append] at HLb
          have m0 : bx ≠ w2.heap.size := by omega
          have m00 := Ne.symm m0
          go_wp2_with fail
          go_region_held3 (fun w' => w'.cell? ⟨bx, 0, none⟩ = some (.pointer (some ⟨g, 0, none⟩)) ∧ w'.cell? ⟨bx, 1, none⟩ = some (.pointer (some ⟨c, 0, none⟩)) ∧ w'.cell? ⟨bx, 2, none⟩ = some (.slice ca s.C.length cp) ∧ w'.cell? ⟨bx, 3, none⟩ = some (.int .i64 (s.most : Int)) ∧ w'.cell? ⟨bx, 4, none⟩ = some (.slice la s.L.length lp) ∧ w'.cell? ⟨bx, 5, none⟩ = some (.int .i64 0) ∧ w'.cell? ⟨bx, 6, none⟩ = some (.slice a rs.length cap)) (go_keep) (first
            | (go_at_call 49; refine (HCC.out _ _ HLa.out).mono ?_; rintro e w3 ⟨c2, q2, ys, rfl, hpl, hL⟩; have HL3 := Lib.hid hL; (simp only [condL, List.cons_append, List.nil_append] at HL3); have HPL := Lib.hid hpl; clear hL hpl y0' y1' y2' y3' y4' y5' y6' hlx; obtain ⟨y0', y1', y2', y3', y4', y5', y6', _, hlx, _, _⟩ := HL3.out.c7 5 rfl; have m1 : bx ≠ w3.heap.size := (by omega); have m2 := Ne.symm m1)
            | (go_at_call 49; refine (HCC.out _ _ HLb.out).mono ?_; rintro e w3 ⟨c2, q2, ys, rfl, hpl, hL⟩; have HL3 := Lib.hid hL; (simp only [condL, List.cons_append, List.nil_append] at HL3); have HPL := Lib.hid hpl; clear hL hpl y0' y1' y2' y3' y4' y5' y6' hlx; obtain ⟨y0', y1', y2', y3', y4', y5', y6', _, hlx, _, _⟩ := HL3.out.c7 5 rfl; obtain ⟨k0, k1, k2, k3, k4, k5, k6, ⟨f0, f1, f2, f3, f4, f5, f6⟩, hlk, _, _⟩ := HL3.out.c7 10 rfl; have m1 : bx ≠ w2.heap.size := m0; have m2 := m00))
          all_goals rename_i hHeld
          all_goals clear hHeld y0' y1' y2' y3' y4' y5' y6' hlx HLa HLb HCC HL2 m0 m00
          all_goals refine exit_name (Q := Exit.then _ _) ?_
          all_goals intro w5 hw5
          all_goals first
            | (have k0' := k0; clear k0'; have HL4 := Lib.hid ((((((((HL3.out.set 10 rfl 0 (.pointer (some ⟨g, 0, none⟩))).set 10 rfl 1 (.pointer (some ⟨c2, 0, none⟩))).set 10 rfl 2 (.slice ca s.C.length cp)).set 10 rfl 3 (.int .i64 (s.most : Int))).set 10 rfl 4 (.slice la s.L.length lp)).set 10 rfl 5 (.int .i64 0)).set 10 rfl 6 (.slice a rs.length cap)).to hw5); (simp only [List.set_cons_succ, List.set_cons_zero, List.setIfInBounds_toArray] at HL4); clear hw5 HL3 m1 m2 k0 k1 k2 k3 k4 k5 k6 f0 f1 f2 f3 f4 f5 f6 hlk; obtain ⟨b10, hb10⟩ : ∃ b, w2.heap.size = b := ⟨_, rfl⟩; rw [hb10] at HL4 ⊢; clear hb10)
            | (have HL4 := Lib.hid ((HL3.out.alloc 105 #[.pointer (some ⟨g, 0, none⟩), .pointer (some ⟨c2, 0, none⟩), .slice ca s.C.length cp, .int .i64 (s.most : Int), .slice la s.L.length lp, .int .i64 0, .slice a rs.length cap]).to hw5); clear hw5 HL3 m1 m2; obtain ⟨b10, hb10⟩ : ∃ b, w3.heap.size = b := ⟨_, rfl⟩; rw [hb10] at HL4 ⊢; clear hb10)
          all_goals
            (try simp only [List.nil_append, List.cons_append] at HL4)
            generalize hPP : (fun W => P W ∧ ∀ y ∈ ys, y.v.In W) = P1 at HL4
            have HP1 : Hid (∀ W, P1 W → P W ∧ ∀ y ∈ ys, y.v.In W) := by subst hPP; exact fun W h => h
            have HB1 := Lib.hid (HB.out.weak15 (fun W hW => (HP1.out W hW).1))
            have HB2 : Hid (Both13 P1 ys rs a cap) := by subst hPP; exact HB.out.copy HPL.out
            have HO1 : Hid (∀ W, P1 W → Old w W) := fun W hW => HO.out W (HP1.out W hW).1
            clear hPP HB HO HP1 HPL
            obtain ⟨y0', y1', y2', y3', y4', y5', y6', _, hlx, _, _⟩ := HL4.out.c7 5 rfl
            go_wp2_with fail
            refine (All_c w5 c q es (HL4.out.condAt 0 rfl) (HL4.out.qAt 1 rfl) (fun e he => ⟨(HB1.out.2.2.2.2 _ (HL4.out.still 2 rfl)).1 e he, HB1.out.2.2.2.1 e he⟩) HB1.out.2.2.1).mono ?_
            rintro e w6 ⟨al, ra, rc, zs, rfl, hpz, hL⟩
            have HPZ := Lib.hid (hpz.trans HB1.out.1)
            have HL6 : Hid (Led T w w6 (ccR c q es P1 q2 ys c2 bx g s (.slice ca s.C.length cp) (.slice la s.L.length lp) a rs.length cap b3 x0 y0 b9 b10 al (.slice ra zs.length rc) zs)) := HL4.out.join hL
            clear hL hpz HL4 y0' y1' y2' y3' y4' y5' y6' hlx
            go_wp2_with fail
            go_loopw [12] (fun i wr => ∃ (k : Nat) (x y : CA), i = .int .i64 (k : Int) ∧ k ≤ 2 ∧ Hid (x = (if 0 < k then x0.norm else x0)) ∧ Hid (y = (if 1 < k then y0.norm else y0)) ∧ Hid (Led T w wr (ccR c q es P1 q2 ys c2 bx g s (.slice ca s.C.length cp) (.slice la s.L.length lp) a rs.length cap b3 x y b9 b10 al (.slice ra zs.length rc) zs))) (fun i _ => 2 - (intOf i).toNat)
            case atStart => exact ⟨0, x0, y0, rfl, by omega, rfl, rfl, HL6⟩
            case round =>
              obtain ⟨j, x, y, rfl, hj, HX, HYY, HK⟩ := hrel
              clear HL6
              have : j = 0 ∨ j = 1 ∨ j = 2 := by omega
              rcases this with rfl | rfl | rfl
              · obtain rfl : x = x0 := by simpa using HX.out
                obtain rfl : y = y0 := by simpa using HYY.out
                obtain ⟨⟨d0, _⟩, _, hb3⟩ := HK.out.two15 8 rfl
                have f0 := (HK.out.box 8 rfl).frozen 0
                by_cases h3 : x.what > 3
                · go_wp2
                  have HL7 := Lib.hid (HK.out.set 8 rfl 0 (.int .i64 3))
                  rw [two15_put0] at HL7
                  clear HK d0 f0 hb3
                  go_roundw
                  case rel => exact ⟨1, ⟨3, x.e⟩, y, by go_num, by omega, (x.norm_of (.inl h3)).symm, rfl, HL7⟩
                  case measure => simp [intOf]
                · by_cases hn : x.what < 0
                  · go_wp2
                    have HL7 := Lib.hid (HK.out.set 8 rfl 0 (.int .i64 3))
                    rw [two15_put0] at HL7
                    clear HK d0 f0 hb3
                    go_roundw
                    case rel => exact ⟨1, ⟨3, x.e⟩, y, by go_num, by omega, (x.norm_of (.inr hn)).symm, rfl, HL7⟩
                    case measure => simp [intOf]
                  · go_wp2
                    clear d0 f0 hb3
                    go_roundw
                    case rel => exact ⟨1, x, y, by go_num, by omega, (x.norm_not (by omega)).symm, rfl, HK⟩
                    case measure => simp [intOf]
              · obtain rfl : x = x0.norm := by simpa using HX.out
                obtain rfl : y = y0 := by simpa using HYY.out
                generalize hxn : x0.norm = x at HK
                have HXN2 : Hid (x = x0.norm) := hxn.symm
                clear hxn
                obtain ⟨_, ⟨d0, _⟩, hb3⟩ := HK.out.two15 8 rfl
                have f0 := (HK.out.box 8 rfl).frozen 8
                by_cases h3 : y.what > 3
                · go_wp2
                  have HL7 := Lib.hid (HK.out.set 8 rfl 8 (.int .i64 3))
                  rw [two15_put8] at HL7
                  clear HK d0 f0 hb3
                  go_roundw
                  case rel => exact ⟨2, x, ⟨3, y.e⟩, by go_num, by omega, rfl, (y.norm_of (.inl h3)).symm, HL7⟩
                  case measure => simp [intOf]
                · by_cases hn : y.what < 0
                  · go_wp2
                    have HL7 := Lib.hid (HK.out.set 8 rfl 8 (.int .i64 3))
                    rw [two15_put8] at HL7
                    clear HK d0 f0 hb3
                    go_roundw
                    case rel => exact ⟨2, x, ⟨3, y.e⟩, by go_num, by omega, rfl, (y.norm_of (.inr hn)).symm, HL7⟩
                    case measure => simp [intOf]
                  · go_wp2
                    clear d0 f0 hb3
                    go_roundw
                    case rel => exact ⟨2, x, y, by go_num, by omega, rfl, (y.norm_not (by omega)).symm, HK⟩
                    case measure => simp [intOf]
              · have hx : x = x0.norm := by simpa using HX.out
                have hyy : y = y0.norm := by simpa using HYY.out
                have HXQ : Hid (x.e.v.nodes ≤ 20 ∧ ∀ W, P1 W → x.e.v.In W) := by rw [hx, CA.norm_e]; exact ⟨HFY.out x0 (by simp), fun W hW => (HY.out x0 (by simp)).1.old (HO1.out W hW)⟩
                have HYQ : Hid (y.e.v.nodes ≤ 20 ∧ ∀ W, P1 W → y.e.v.In W) := by rw [hyy, CA.norm_e]; exact ⟨HFY.out y0 (by simp), fun W hW => (HY.out y0 (by simp)).1.old (HO1.out W hW)⟩
                have HXV := Lib.hid x0.norm_what
                have HYV := Lib.hid y0.norm_what
                rw [← hx] at HXV
                rw [← hyy] at HYV
                clear hx hyy HX HYY
                obtain ⟨⟨d0, d1, d2, d3, d4, d5, d6, d7⟩, ⟨e0, e1, e2, e3, e4, e5, e6, e7⟩, hb3⟩ := HK.out.two15 8 rfl
                simp only [Nat.zero_add, Nat.reduceAdd] at d1 d2 d3 d4 d5 d6 d7 e0 e1 e2 e3 e4 e5 e6 e7
                have HT1 := Lib.hid (Led.turn15 (r := [queueT q2 ys, box c2 90 #[.int .i64 0, .int .i64 1, .pointer (some ⟨q2, 0, none⟩)], boxT b3 x y, box b9 103 #[.int .i64 0, .slice a rs.length cap], box b10 105 (bothC g c2 (.slice ca s.C.length cp) s.most (.slice la s.L.length lp) a rs.length cap), allT al (.slice ra zs.length rc) zs]) (HK.out.sel [0, 1, 2, 5, 6, 7, 3, 4, 8, 9, 10, 11] rfl (by decide)) x HB1.out HXQ.out HXV.out)
                unfold CA.val at HT1
                go_wp2_with fail
                refine HT1.out.mono ?_
                rintro e w7 ⟨es2, rs2, a2, cap2, P2, rfl, hB, hP, hL⟩
                have HL7 := Lib.hid hL
                have HBX := Lib.hid hB
                have HP2 := Lib.hid hP
                clear hL hB hP HT1 HK d0 d1 d2 d3 d4 d5 d6 d7 e0 e1 e2 e3 e4 e5 e6 e7 hb3
                obtain ⟨_, ⟨e0, e1, e2, e3, e4, e5, e6, e7⟩, hb3⟩ := HL7.out.two15 8 rfl
                simp only [Nat.zero_add, Nat.reduceAdd] at e0 e1 e2 e3 e4 e5 e6 e7
                have HT2 := Lib.hid (Led.turn15 (c := c2) (q := q2) (es := ys) (bx := b10) (r := [box c 90 #[.int .i64 0, .int .i64 1, .pointer (some ⟨q, 0, none⟩)], queueT q es2, box bx 105 (bothC g c (.slice ca s.C.length cp) s.most (.slice la s.L.length lp) a2 rs2.length cap2), boxT b3 x y, box b9 103 #[.int .i64 0, .slice a rs.length cap], allT al (.slice ra zs.length rc) zs]) (HL7.out.sel [7, 6, 2, 10, 4, 5, 0, 1, 3, 8, 9, 11] rfl (by decide)) y (HB2.out.weak15 HP2.out) ⟨HYQ.out.1, fun W hW => HYQ.out.2 W (HP2.out W hW)⟩ HYV.out)
                unfold CA.val at HT2
                go_wp2_with fail
                refine HT2.out.mono ?_
                rintro e w8 ⟨ys2, ss2, a3, cap3, P3, rfl, hB, hP, hL⟩
                have HL8 := Lib.hid hL
                have HBY := Lib.hid hB
                have HP3 := Lib.hid hP
                clear hL hB hP HT2 HL7 e0 e1 e2 e3 e4 e5 e6 e7 hb3 HXQ HYQ HXV HYV
                have HBX3 := Lib.hid (HBX.out.weak15 HP3.out)
                have HBW3 := Lib.hid ((HB1.out.weak15 HP2.out).weak15 HP3.out)
                have HO3 : Hid (∀ W, P3 W → Old w W) := fun W hW => HO1.out W (HP2.out W (HP3.out W hW))
                clear HB1 HB2 HBX HP2 HP3 HO1
                go_wp2_with fail
                refine (Led.is15' (c := c) (q := q) (bx := bx) (es := es2) (r := []) (many := 9999) (HL8.out.sel [6, 7, 2, 8, 4, 5] rfl (by decide)) HBX3.out HS.out (by have := HK30.out; omega) (by omega)).mono ?_
                rintro e w9 ⟨rfl, ht⟩
                have HL9 := Lib.hid (HL8.out.touch ht)
                clear ht HL8
                go_wp2_with fail
                refine (Led.is15' (c := c2) (q := q2) (bx := b10) (es := ys2) (r := []) (many := 9999) (HL9.out.sel [0, 1, 2, 3, 4, 5] rfl (by decide)) HBY.out HS.out (by have := HK30.out; omega) (by omega)).mono ?_
                rintro e wA ⟨rfl, ht⟩
                have HLA := Lib.hid (HL9.out.touch ht)
                clear ht HL9
                have HOV := Lib.hid (fun W (hW : Touch [] wA W) many (hm : many ≤ 10000) => over15 W al ra rc zs rs a cap many (AllAt.touch (HLA.out.allAt 11 rfl) hW) (fun z hz => by
                    have hmm : z.plain ∈ rs.map ME.plain := by rw [← HPZ.out]; exact List.mem_map_of_mem hz
                    obtain ⟨r, hr, hpr⟩ := List.mem_map.1 hmm
                    rw [plain_nodes_eq hpr]; exact HBW3.out.rnodes r hr) (((HBW3.out.2.2.2.2 _ (HLA.out.still 2 rfl)).2.1).touch hW) (fun r hr => ⟨((HBW3.out.2.2.2.2 _ (HLA.out.still 2 rfl)).2.2 r hr).touch0 hW, HBW3.out.rnodes r hr⟩) HPZ.out (by have := HBW3.out.len; have := HBW3.out.2.2.1; omega) hm)
                obtain ⟨k0, k1, kf, hlk, _, _, _⟩ := HLA.out.c2 10 rfl
                go_wp2_with fail
                refine (HOV.out wA (Touch.refl [] wA) 9999 (by omega)).mono ?_
                rintro e wB ⟨rfl, ht⟩
                have HTB := Lib.hid ht
                have HLB := Lib.hid (HLA.out.touch ht)
                clear ht k0 k1 kf hlk
                obtain ⟨k0, k1, kf, hlk, _, _, _⟩ := HLB.out.c2 10 rfl
                go_wp2_with fail
                refine (HOV.out wB HTB.out 1 (by omega)).mono ?_
                rintro e wC ⟨rfl, ht⟩
                have HLC := Lib.hid (HLB.out.touch ht)
                clear ht k0 k1 kf hlk HLB HLA HOV HTB
                obtain ⟨y0', y1', y2', y3', y4', y5', y6', _, hlx, _, _⟩ := HLC.out.c7 8 rfl
                obtain ⟨z0', z1', z2', z3', z4', z5', z6', _, hlz, _, _⟩ := HLC.out.c7 3 rfl
                go_wp2_with fail
                have hPW := HBX3.out.2.2.2.2 _ (HLC.out.still 2 rfl)
                have hPV := HBY.out.2.2.2.2 _ (HLC.out.still 2 rfl)
                refine (Same_ref15 wC a2 a3 cap2 cap3 rs2 ss2 hPW.2.1 hPV.2.1 (fun r hr => ⟨hPW.2.2 r hr, HBX3.out.rnodes r hr⟩) (fun r hr => ⟨hPV.2.2 r hr, HBY.out.rnodes r hr⟩) (by have := HBX3.out.len; have := HBX3.out.2.2.1; omega) (by have := HBY.out.len; have := HBY.out.2.2.1; omega)).mono ?_
                clear hPW hPV
                rintro e wD ⟨cr, rfl, hcr, ht⟩
                have HLD := Lib.hid (HLC.out.touch ht)
                have HCR := Lib.hid hcr
                clear ht hcr HLC y0' y1' y2' y3' y4' y5' y6' hlx z0' z1' z2' z3' z4' z5' z6' hlz
                obtain ⟨y0', y1', y2', y3', y4', y5', y6', _, hlx, _, _⟩ := HLD.out.c7 8 rfl
                obtain ⟨z0', z1', z2', z3', z4', z5', z6', _, hlz, _, _⟩ := HLD.out.c7 3 rfl
                have HEX : Hid (∀ W, P3 W → ∀ e ∈ es2, e.v.In W ∧ e.v.nodes ≤ 256) := fun W hW e he => ⟨(HBX3.out.2.2.2.2 W hW).1 e he, HBX3.out.2.2.2.1 e he⟩
                have HEY : Hid (∀ W, P3 W → ∀ e ∈ ys2, e.v.In W ∧ e.v.nodes ≤ 256) := fun W hW e he => ⟨(HBY.out.2.2.2.2 W hW).1 e he, HBY.out.2.2.2.1 e he⟩
                go_wp2_with fail
                refine (Same_c wD c q c2 q2 es2 ys2 (HLD.out.condAt 6 rfl) (HLD.out.qAt 7 rfl) (HEX.out _ (HLD.out.still 2 rfl)) (HLD.out.condAt 0 rfl) (HLD.out.qAt 1 rfl) (HEY.out _ (HLD.out.still 2 rfl)) HBX3.out.2.2.1 HBY.out.2.2.1).mono ?_
                rintro e wE ⟨c3, rfl, hc3, ht⟩
                obtain rfl : c3 = cr := by
                  have h1 := HCR.out
                  rw [HBX3.out.1, HBY.out.1] at hc3
                  cases c3 <;> cases cr <;> simp_all
                have HLE := Lib.hid (HLD.out.touch ht)
                clear ht hc3 HLD y0' y1' y2' y3' y4' y5' y6' hlx z0' z1' z2' z3' z4' z5' z6' hlz
                obtain ⟨y0', y1', y2', y3', y4', y5', y6', _, hlx, _, _⟩ := HLE.out.c7 8 rfl
                obtain ⟨z0', z1', z2', z3', z4', z5', z6', _, hlz, _, _⟩ := HLE.out.c7 3 rfl
                have hcc : (c3 == c3) = true := by simp
                go_wp2_with fail
                refine (Same_c wE c2 q2 c q ys2 es2 (HLE.out.condAt 0 rfl) (HLE.out.qAt 1 rfl) (HEY.out _ (HLE.out.still 2 rfl)) (HLE.out.condAt 6 rfl) (HLE.out.qAt 7 rfl) (HEX.out _ (HLE.out.still 2 rfl)) HBY.out.2.2.1 HBX3.out.2.2.1).mono ?_
                rintro e wF ⟨c4, rfl, hc4, ht⟩
                obtain rfl : c4 = c3 := by
                  have h1 := HCR.out
                  rw [HBX3.out.1, HBY.out.1] at hc4
                  have h2 := hc4.trans ⟨Eq.symm, Eq.symm⟩
                  cases c3 <;> cases c4 <;> simp_all
                have HLF := Lib.hid (HLE.out.touch ht)
                clear ht hc4 HLE y0' y1' y2' y3' y4' y5' y6' hlx z0' z1' z2' z3' z4' z5' z6' hlz
                go_wp2_with fail
                refine (works15 _).mono ?_
                rintro e wG ⟨rfl, ht⟩
                have HLG := Lib.hid (HLF.out.touch ht)
                clear ht
                go_wp2
                go_ret
                exact ⟨rfl, (HLG.out.oldTouch (HO3.out _ (HLG.out.still 2 rfl))).below⟩
end Go.Proofs.Ytihmbgdkllmkaaa
