/-
  The law's works() of layer 12 (betrothallaw12/law.go): it returns true, and nothing that was there has turned.
-/
import Derived.Test.YtegebecogbebaaaFollows
namespace Go.Proofs.Ytegebecogbebaaa
open Go.RowKit Go.Shelf
set_option maxRecDepth 100000
set_option linter.unusedVariables false
set_option linter.unusedSimpArgs false
attribute [local go_sem] Oper.semAt_some

theorem num12 (n : Int) (w : World) : Calls Try.prog 45 #[.int .i64 n] w fun e w' => e = .returned (.int .i64 n) ∧ w = w' := by
  go_enter Try.func45, Try.ntmps45
  go_wp2
  go_ret
  exact ⟨rfl, rfl⟩
theorem of12 (step : Int) (owner : Bool) (was : Int) (w : World) : Calls Try.prog 79 #[.int .i64 step, .bool owner, .int .i64 was] w fun e w' => e = .returned (.agg #[.int .i64 step, .bool owner, .int .i64 was]) ∧ Touch [] w w' := by
  have HT := Lib.hid ((Touch.refl [] w).alloc (.cells #[.int .i64 step, .bool owner, .int .i64 was] 95))
  go_enter Try.func79, Try.ntmps79
  go_wp2
  refine bodyPost_ret (v := .agg #[.int .i64 step, .bool owner, .int .i64 was]) (by simp [results, Try.results79, go_sem]) rfl ⟨rfl, HT.out⟩
theorem own_facts {W : World} {g n : Nat} (L : List FAct) (hn : L.length = n) (hn2 : n ≤ 1000000) (h : Blk W g 95 (factCells L).toArray) : W.ownsRow 0 95 3 (.slice (some ⟨g, 0, none⟩) n n) n (factCells L) := by
  have hl := factCells_length L
  exact ⟨by rw [hl, hn], .inr ⟨g, n, (factCells L).toArray, rfl, Nat.zero_le _, h, Nat.le_refl _, by simp only [maxLen]; omega, by simp [hl, hn], by rw [List.toList_toArray, List.take_of_length_le (by rw [hl, hn]; exact Nat.le_refl _)]⟩⟩

theorem doBy_wd (s : Ar) (op : Nat) (at_ : Int) (chg : Nat → Nat × Bool) (h : ∀ n ∈ s.C, Wd n) : Wd (s.doBy op at_ chg).2.1.old := by
  have h0 : Wd 0 := by unfold Wd; omega
  simp only [Ar.doBy]
  split
  · simp only [List.getD]
    cases hc : s.C[at_.toNat]? with
    | none => exact h0
    | some x => exact h x (List.mem_of_getElem? hc)
  · exact h0
section
variable {T : List Nat} {w0 w : World} {l : List Thing} {g : Nat} {s : Ar} (h : Led T w0 w l) (i : Nat) (hi : l[i]? = some (arena g s)) (at_ : Int) (s' : Ar) (v er : Nat)
include h hi
theorem Led.flNew (h1 : s.allocA 1 = (s', v, er)) : Calls Try.prog 41 #[.pointer (some ⟨g, 0, none⟩)] w fun e w' => e = .returned (.tuple #[.int .i64 (v : Int), .int .i64 (er : Int)]) ∧ Led T w0 w' (l.set i (arena g s')) := by
  have hh := h.ar i hi (s' := (s.allocA 1).1) (fun fp hI => Alloc_any w g fp s 1 hI)
  rw [h1] at hh
  refine FlagNew_of w _ er _ v hh (fun he => ?_)
  simp only [Ar.allocA] at h1
  repeat' split at h1
  all_goals simp only [Prod.mk.injEq] at h1
  all_goals omega
variable (hn : s.L.length < 4611686018427387904)
include hn
theorem Led.flClaim (h1 : (s.swap at_ 0 1).1 = s') (h2 : flagV (s.swap at_ 0 1).2.1.old (s.swap at_ 0 1).2.2 = (v, er)) : Calls Try.prog 42 #[.pointer (some ⟨g, 0, none⟩), .int .i64 at_] w fun e w' => e = .returned (.tuple #[.int .i64 (v : Int), .int .i64 (er : Int)]) ∧ Led T w0 w' (l.set i (arena g s')) := by
  have hh := Claim_of w (some ⟨g, 0, none⟩) at_ _ _ _ _ (doBy_wd s 3 at_ (chgSwap 0 1) (h.artAll i hi).1) ((h.alloc_ _).ar i hi (fun fp hI => Swap_any _ g fp s at_ hI hn 0 1 wd0 wd1))
  change Calls _ _ _ _ (fun e w' => e = .returned (.tuple #[.int .i64 ((flagV (s.swap at_ 0 1).2.1.old (s.swap at_ 0 1).2.2).1 : Int), .int .i64 ((flagV (s.swap at_ 0 1).2.1.old (s.swap at_ 0 1).2.2).2 : Int)]) ∧ _) at hh
  rwa [h2, h1] at hh
theorem Led.flTake (h1 : (s.swap at_ 0 2).1 = s') (h2 : flagV (s.swap at_ 0 2).2.1.old (s.swap at_ 0 2).2.2 = (v, er)) : Calls Try.prog 43 #[.pointer (some ⟨g, 0, none⟩), .int .i64 at_] w fun e w' => e = .returned (.tuple #[.int .i64 (v : Int), .int .i64 (er : Int)]) ∧ Led T w0 w' (l.set i (arena g s')) := by
  have hh := Take_of w (some ⟨g, 0, none⟩) at_ _ _ _ _ (doBy_wd s 3 at_ (chgSwap 0 2) (h.artAll i hi).1) ((h.alloc_ _).ar i hi (fun fp hI => Swap_any _ g fp s at_ hI hn 0 2 wd0 (by unfold Wd; omega)))
  change Calls _ _ _ _ (fun e w' => e = .returned (.tuple #[.int .i64 ((flagV (s.swap at_ 0 2).2.1.old (s.swap at_ 0 2).2.2).1 : Int), .int .i64 ((flagV (s.swap at_ 0 2).2.1.old (s.swap at_ 0 2).2.2).2 : Int)]) ∧ _) at hh
  rwa [h2, h1] at hh
theorem Led.flLook (h1 : (s.load at_).1 = s') (h2 : flagV (s.load at_).2.1.old (s.load at_).2.2 = (v, er)) : Calls Try.prog 44 #[.pointer (some ⟨g, 0, none⟩), .int .i64 at_] w fun e w' => e = .returned (.tuple #[.int .i64 (v : Int), .int .i64 (er : Int)]) ∧ Led T w0 w' (l.set i (arena g s')) := by
  have hh := Look_of w (some ⟨g, 0, none⟩) at_ _ _ _ (doBy_wd s 1 at_ chgLoad (h.artAll i hi).1) ((((h.alloc_ _).alloc_ _).alloc_ _).ar i hi (fun fp hI => Load_any _ g fp s at_ hI hn))
  change Calls _ _ _ _ (fun e w' => e = .returned (.tuple #[.int .i64 ((flagV (s.load at_).2.1.old (s.load at_).2.2).1 : Int), .int .i64 ((flagV (s.load at_).2.1.old (s.load at_).2.2).2 : Int)]) ∧ _) at hh
  rwa [h2, h1] at hh
theorem Led.flUnclaim (h1 : (s.store at_ 0).1 = s') (h2 : (s.store at_ 0).2.2 = er) : Calls Try.prog 46 #[.pointer (some ⟨g, 0, none⟩), .int .i64 at_] w fun e w' => e = .returned (.int .i64 (er : Int)) ∧ Led T w0 w' (l.set i (arena g s')) := by
  have hh := Unclaim_of w (some ⟨g, 0, none⟩) at_ _ _ (h.ar i hi (fun fp hI => Store_any _ g fp s at_ hI hn 0 wd0))
  rwa [h2, h1] at hh
theorem Led.flSettle (h1 : (s.store at_ 2).1 = s') (h2 : (s.store at_ 2).2.2 = er) : Calls Try.prog 47 #[.pointer (some ⟨g, 0, none⟩), .int .i64 at_] w fun e w' => e = .returned (.int .i64 (er : Int)) ∧ Led T w0 w' (l.set i (arena g s')) := by
  have hh := Settle_of w (some ⟨g, 0, none⟩) at_ _ _ (h.ar i hi (fun fp hI => Store_any _ g fp s at_ hI hn 2 (by unfold Wd; omega)))
  rwa [h2, h1] at hh
end

theorem Follows_is (w : World) (v : Value) (L : List FAct) (K r : Nat) (b : Bool) (hK : Far L K) (h : w.ownsRow 0 95 3 v L.length (factCells L)) (hl : L.length ≤ 1000000) (h1 : (if K < L.length then K else 0 : Nat) = r) (h2 : decide (¬ K < L.length) = b) :
    Calls Try.prog 49 #[v] w fun e w' => e = .returned (.tuple #[.int .i64 (r : Int), .bool b]) ∧ Touch [] w w' := by
  have := Follows_any w v L K hK h hl
  rwa [h1, h2] at this
theorem states_not_nil (fn : Fn) (x y : Array Value) (w : World) : (binOp .eql 138 (.func fn x y) .nilFunc).run Try.prog w = .ok (.bool false) w := by kernel_rfl
/-- The things of works() between two rounds. -/
def w12R (b0 g ba bl bw b24 b25 : Nat) (S : Ar) (v' : Value) (k : Nat) : List Thing :=
  [box b0 4 #[.bool false], arena g S, box ba 95 (factCells [⟨1, true, 0⟩, ⟨3, false, 1⟩, ⟨4, true, 1⟩]).toArray, row 95 3 v' 3 (factCells [⟨1, true, 0⟩, ⟨3, false, 1⟩, ⟨4, true, 1⟩]), box bl 92 #[v'],
   box bw 88 #[.int .i64 1, .int .i64 1, .int .i64 2], box b24 140 #[.slice (some ⟨bw, 0, none⟩) 3 3], box b25 3 #[.int .i64 (k : Int)]]
def w12A : List FAct := [⟨1, true, 0⟩, ⟨3, false, 1⟩, ⟨4, true, 1⟩]
theorem far12A : Far w12A 3 := ⟨by decide, fun j hj => by match j, hj with | 0, _ => rfl | 1, _ => rfl | 2, _ => rfl, fun h => absurd h (by decide)⟩
theorem far12B : Far [⟨1, false, 0⟩] 0 := ⟨by decide, fun j hj => by omega, fun _ => rfl⟩
theorem far12C : Far [⟨1, true, 0⟩, ⟨5, true, 1⟩] 1 := ⟨by decide, fun j hj => by match j, hj with | 0, _ => rfl, fun _ => rfl⟩
theorem far12D : Far [⟨3, true, 0⟩, ⟨3, false, 0⟩] 1 := ⟨by decide, fun j hj => by match j, hj with | 0, _ => rfl, fun _ => rfl⟩

set_option maxHeartbeats 8000000 in
theorem works12_in (n : Nat) (w : World) : CallsIn Fence.wide n Try.prog 48 #[] w fun e w' => e = .returned (.bool true) ∧ Below w.heap.size w w' := by
  refine callsIn_of_wp_marks Try.func48 rfl trivial ?_ rfl
  simp only [Try.ntmps48, List.size_toArray, List.length_cons, List.length_nil, Nat.reduceAdd, Nat.reduceSub, Array.replicate_succ, Array.replicate_zero, List.push_toArray, List.append_toArray, List.nil_append, List.cons_append]
  gi_wp2_with fail
  refine ⟨trivial, nodepth, ?_⟩
  refine (callsIn_wide.2 (((Led.nil' w).alloc _ _).arNew 2 (by omega) (by omega))).mono ?_
  rintro e w1 ⟨rfl, hh⟩
  have HL1 := Lib.hid hh
  simp only [List.nil_append, List.cons_append, World.size_alloc] at HL1
  obtain ⟨g, hg⟩ : ∃ b, (w.alloc (.cells #[.bool false] 4)).heap.size = b := ⟨_, rfl⟩
  have hg' : w.heap.size + 1 = g := by rw [← hg]; simp
  rw [hg'] at HL1
  rw [hg]
  obtain ⟨b0, hb0⟩ : ∃ b, w.heap.size = b := ⟨_, rfl⟩
  rw [hb0] at HL1 ⊢
  clear hh hg hg'
  gi_wp2_with fail
  refine ⟨trivial, nodepth, ?_⟩
  refine (callsIn_wide.2 (HL1.out.flNew 1 rfl ⟨[0], 2, []⟩ 0 0 rfl)).mono ?_
  rintro e w2 ⟨rfl, hh⟩
  have HL2 := Lib.hid hh
  simp only [List.set_cons_succ, List.set_cons_zero] at HL2
  clear hh HL1
  gi_wp2_with fail
  refine ⟨trivial, nodepth, ?_⟩
  refine (callsIn_wide.2 (HL2.out.flLook 1 rfl 0 ⟨[0], 2, [⟨1, 0, 0, 0, true⟩]⟩ 0 0 (by simp) rfl rfl)).mono ?_
  rintro e w3 ⟨rfl, hh⟩
  have HL3 := Lib.hid hh
  simp only [List.set_cons_succ, List.set_cons_zero] at HL3
  clear hh HL2
  gi_wp2_with fail
  refine ⟨trivial, nodepth, ?_⟩
  refine (callsIn_wide.2 (HL3.out.flClaim 1 rfl 0 ⟨[1], 2, [⟨1, 0, 0, 0, true⟩, ⟨3, 0, 0, 1, true⟩]⟩ 0 0 (by simp) rfl rfl)).mono ?_
  rintro e w4 ⟨rfl, hh⟩
  have HL4 := Lib.hid hh
  simp only [List.set_cons_succ, List.set_cons_zero] at HL4
  clear hh HL3
  gi_wp2_with fail
  refine ⟨trivial, nodepth, ?_⟩
  refine (callsIn_wide.2 (HL4.out.flTake 1 rfl 0 ⟨[1], 2, [⟨1, 0, 0, 0, true⟩, ⟨3, 0, 0, 1, true⟩, ⟨3, 0, 1, 1, false⟩]⟩ 1 0 (by simp) rfl rfl)).mono ?_
  rintro e w5 ⟨rfl, hh⟩
  have HL5 := Lib.hid hh
  simp only [List.set_cons_succ, List.set_cons_zero] at HL5
  clear hh HL4
  gi_wp2_with fail
  refine ⟨trivial, nodepth, ?_⟩
  refine (callsIn_wide.2 (HL5.out.flClaim 1 rfl 0 ⟨[1], 2, [⟨1, 0, 0, 0, true⟩, ⟨3, 0, 0, 1, true⟩, ⟨3, 0, 1, 1, false⟩, ⟨3, 0, 1, 1, false⟩]⟩ 1 0 (by simp) rfl rfl)).mono ?_
  rintro e w6 ⟨rfl, hh⟩
  have HL6 := Lib.hid hh
  simp only [List.set_cons_succ, List.set_cons_zero] at HL6
  clear hh HL5
  gi_wp2_with fail
  refine ⟨trivial, nodepth, ?_⟩
  refine (callsIn_wide.2 (HL6.out.flUnclaim 1 rfl 0 ⟨[0], 2, [⟨1, 0, 0, 0, true⟩, ⟨3, 0, 0, 1, true⟩, ⟨3, 0, 1, 1, false⟩, ⟨3, 0, 1, 1, false⟩, ⟨2, 0, 1, 0, true⟩]⟩ 0 (by simp) rfl rfl)).mono ?_
  rintro e w7 ⟨rfl, hh⟩
  have HL7 := Lib.hid hh
  simp only [List.set_cons_succ, List.set_cons_zero] at HL7
  clear hh HL6
  gi_wp2_with fail
  refine ⟨trivial, nodepth, ?_⟩
  refine (callsIn_wide.2 (HL7.out.flTake 1 rfl 0 ⟨[2], 2, [⟨1, 0, 0, 0, true⟩, ⟨3, 0, 0, 1, true⟩, ⟨3, 0, 1, 1, false⟩, ⟨3, 0, 1, 1, false⟩, ⟨2, 0, 1, 0, true⟩, ⟨3, 0, 0, 2, true⟩]⟩ 0 0 (by simp) rfl rfl)).mono ?_
  rintro e w8 ⟨rfl, hh⟩
  have HL8 := Lib.hid hh
  simp only [List.set_cons_succ, List.set_cons_zero] at HL8
  clear hh HL7
  gi_wp2_with fail
  refine ⟨trivial, nodepth, ?_⟩
  refine (callsIn_wide.2 (HL8.out.flTake 1 rfl 0 ⟨[2], 2, [⟨1, 0, 0, 0, true⟩, ⟨3, 0, 0, 1, true⟩, ⟨3, 0, 1, 1, false⟩, ⟨3, 0, 1, 1, false⟩, ⟨2, 0, 1, 0, true⟩, ⟨3, 0, 0, 2, true⟩, ⟨3, 0, 2, 2, false⟩]⟩ 2 0 (by simp) rfl rfl)).mono ?_
  rintro e w9 ⟨rfl, hh⟩
  have HL9 := Lib.hid hh
  simp only [List.set_cons_succ, List.set_cons_zero] at HL9
  clear hh HL8
  gi_wp2_with fail
  refine ⟨trivial, nodepth, ?_⟩
  refine (callsIn_wide.2 (HL9.out.flLook 1 rfl 0 ⟨[2], 2, [⟨1, 0, 0, 0, true⟩, ⟨3, 0, 0, 1, true⟩, ⟨3, 0, 1, 1, false⟩, ⟨3, 0, 1, 1, false⟩, ⟨2, 0, 1, 0, true⟩, ⟨3, 0, 0, 2, true⟩, ⟨3, 0, 2, 2, false⟩, ⟨1, 0, 2, 2, true⟩]⟩ 2 0 (by simp) rfl rfl)).mono ?_
  rintro e w10 ⟨rfl, hh⟩
  have HL10 := Lib.hid hh
  simp only [List.set_cons_succ, List.set_cons_zero] at HL10
  clear hh HL9
  gi_wp2_with fail
  refine ⟨trivial, nodepth, ?_⟩
  refine (callsIn_wide.2 (num12 _ _)).mono ?_
  rintro e w' ⟨rfl, rfl⟩
  gi_wp2_with fail
  refine ⟨trivial, nodepth, ?_⟩
  refine (callsIn_wide.2 (num12 _ _)).mono ?_
  rintro e w' ⟨rfl, rfl⟩
  gi_wp2_with fail
  refine ⟨trivial, nodepth, ?_⟩
  refine (callsIn_wide.2 (num12 _ _)).mono ?_
  rintro e w' ⟨rfl, rfl⟩
  gi_wp2_with fail
  refine ⟨trivial, nodepth, ?_⟩
  refine (callsIn_wide.2 (num12 _ _)).mono ?_
  rintro e w' ⟨rfl, rfl⟩
  gi_wp2_with fail
  refine ⟨trivial, nodepth, ?_⟩
  refine (callsIn_wide.2 (num12 _ _)).mono ?_
  rintro e w' ⟨rfl, rfl⟩
  gi_wp2_with fail
  refine ⟨trivial, nodepth, ?_⟩
  refine (callsIn_wide.2 (num12 _ _)).mono ?_
  rintro e w' ⟨rfl, rfl⟩
  gi_wp2_with fail
  refine ⟨trivial, nodepth, ?_⟩
  refine (callsIn_wide.2 (num12 _ _)).mono ?_
  rintro e w' ⟨rfl, rfl⟩
  gi_wp2_with fail
  refine ⟨trivial, nodepth, ?_⟩
  refine (callsIn_wide.2 (num12 _ _)).mono ?_
  rintro e w' ⟨rfl, rfl⟩
  gi_wp2_with fail
  refine ⟨trivial, nodepth, ?_⟩
  refine (callsIn_wide.2 (num12 _ _)).mono ?_
  rintro e w' ⟨rfl, rfl⟩
  gi_wp2_with fail
  refine ⟨trivial, nodepth, ?_⟩
  refine (callsIn_wide.2 (num12 _ _)).mono ?_
  rintro e w' ⟨rfl, rfl⟩
  gi_wp2_with fail
  refine ⟨trivial, nodepth, ?_⟩
  refine (callsIn_wide.2 (of12 _ _ _ _)).mono ?_
  rintro e w11 ⟨rfl, ht⟩
  have HL11 := Lib.hid (HL10.out.touch ht)
  clear ht HL10
  gi_wp2_with fail
  refine ⟨trivial, nodepth, ?_⟩
  refine (callsIn_wide.2 (of12 _ _ _ _)).mono ?_
  rintro e w12 ⟨rfl, ht⟩
  have HL12 := Lib.hid (HL11.out.touch ht)
  clear ht HL11
  gi_wp2_with fail
  refine ⟨trivial, nodepth, ?_⟩
  refine (callsIn_wide.2 (of12 _ _ _ _)).mono ?_
  rintro e w13 ⟨rfl, ht⟩
  have HL13 := Lib.hid (HL12.out.touch ht)
  clear ht HL12
  gi_wp2_with fail
  refine ⟨trivial, nodepth, ?_⟩
  refine (callsIn_wide.2 (Follows_is _ _ w12A 3 0 true far12A (own_facts w12A rfl (by decide) ((HL13.out.alloc _ _).box 2 rfl)) (by decide) rfl rfl)).mono ?_
  rintro e w14 ⟨rfl, ht⟩
  have HL14 := Lib.hid (HL13.out.tal1 ht)
  simp only [List.nil_append, List.cons_append] at HL14
  clear ht HL13
  obtain ⟨ba, hba⟩ : ∃ b, w13.heap.size = b := ⟨_, rfl⟩
  rw [hba] at HL14 ⊢
  clear hba
  gi_wp2_with fail
  refine ⟨trivial, nodepth, ?_⟩
  refine (callsIn_wide.2 (States_any _ _ w12A (own_facts w12A rfl (by decide) (HL14.out.box 2 rfl)) (by decide))).mono ?_
  rintro e w15 ⟨bl, v', rfl, h1⟩
  have HL15 := Lib.hid (HL14.out.join h1)
  simp only [List.nil_append, List.cons_append] at HL15
  have hnil := states_not_nil
  clear h1 HL14
  gi_wp2_with fail
  refine wpIn_name ?_
  intro w16 hw16
  have HL16 := Lib.hid (HL15.out.al3 hw16)
  simp only [List.nil_append, List.cons_append] at HL16
  obtain ⟨b25, hb25⟩ : ∃ b, w15.heap.size + 1 + 1 = b := ⟨_, rfl⟩
  rw [hb25] at HL16 ⊢
  obtain ⟨b24, hb24⟩ : ∃ b, w15.heap.size + 1 = b := ⟨_, rfl⟩
  rw [hb24] at HL16 ⊢
  obtain ⟨bw, hbw⟩ : ∃ b, w15.heap.size = b := ⟨_, rfl⟩
  rw [hbw] at HL16 ⊢
  clear hw16 hb25 hb24 hbw hnil HL15
  generalize hS : (⟨[2], 2, _⟩ : Ar) = S at HL16
  clear hS
  refine range_statesL (bl := bl) (v := v') (L := w12A) rfl rfl (by decide) (w12R b0 g ba bl bw b24 b25 S v') (fun _ _ => False) 4 3 (fun _ => rfl) (fun _ => rfl) HL16.out ?hround ?hdone ?hstop
  case hstop => rintro c W lx h _; exact h.elim
  case hround =>
    intro k p W o0 hk hok h
    obtain ⟨D, hD⟩ : ∃ D, w16.heap.size = D := ⟨_, rfl⟩
    rw [hD] at h ⊢
    have HK := Lib.hid h
    have hk3 : k < 3 := hk
    clear h hD hok hk
    have hst0 : ∀ W2 : World, W2.cell? ⟨bw, 0, none⟩ = some (.int .i64 1) ∧ W2.cell? ⟨bw, 1, none⟩ = some (.int .i64 1) ∧ W2.cell? ⟨bw, 2, none⟩ = some (.int .i64 2) → W2.cell? ⟨bw, k, none⟩ = some (.int .i64 (stAt w12A (k + 1))) := by
      rintro W2 ⟨q0, q1, q2⟩
      match k, hk3 with
      | 0, _ => exact q0
      | 1, _ => exact q1
      | 2, _ => exact q2
    have HST := Lib.hid hst0
    clear hst0
    generalize stAt w12A (k + 1) = sv at HST ⊢
    gi_wp2
    refine ⟨[], by simpa using HK.out, fun W2 o h2 => ?_⟩
    obtain ⟨M, e1, e2, e3, e4⟩ := p
    have HK2 := Lib.hid h2
    simp only [w12R, effL, effT, marks, List.nil_append, List.cons_append, List.append_nil] at HK2
    clear h2 HK
    obtain ⟨n0, fn, zn, _, _⟩ := HK2.out.c1 7 rfl
    obtain ⟨l0, _, zl, _, _⟩ := HK2.out.c1 6 rfl
    obtain ⟨q0, q1, q2, _, _, _, zq, _, _⟩ := HK2.out.c3 5 rfl
    have qk := HST.out W2 ⟨q0, q1, q2⟩
    have hg1 : ¬ (3 : Int) ≤ (k : Int) := by omega
    have hg2 : (k : Int) < 3 := by omega
    have hg3 : (0 : Int) ≤ (k : Int) := by omega
    clear q0 q1 q2
    gi_wp2_with fail
    exact ⟨[], HK2.out.set 7 rfl 0 (.int .i64 ((k : Int) + 1))⟩
  case hdone =>
    intro k p W hk1 hk2 hk3 h
    obtain ⟨D, hD⟩ : ∃ D, w16.heap.size = D := ⟨_, rfl⟩
    rw [hD] at h ⊢
    obtain rfl : k = 3 := Far.unique ⟨hk1, hk2, hk3⟩ far12A
    have HL20 := Lib.hid h.swapEnd.sub_end
    simp only [w12R, marks1, List.nil_append, List.cons_append] at HL20
    clear h hD hk1 hk2 hk3 HL16
    gi_wp2_with fail
    refine ⟨trivial, nodepth, ?_⟩
    refine (callsIn_wide.2 (of12 _ _ _ _)).mono ?_
    rintro e w21 ⟨rfl, ht⟩
    have HL21 := Lib.hid (HL20.out.touch ht)
    clear ht HL20
    gi_wp2_with fail
    refine ⟨trivial, nodepth, ?_⟩
    refine (callsIn_wide.2 (Follows_is _ _ [⟨1, false, 0⟩] 0 0 false far12B (own_facts [⟨1, false, 0⟩] rfl (by decide) ((HL21.out.alloc _ _).box 10 rfl)) (by decide) rfl rfl)).mono ?_
    rintro e w22 ⟨rfl, ht⟩
    have HL22 := Lib.hid (HL21.out.tal1 ht)
    simp only [List.nil_append, List.cons_append] at HL22
    clear ht HL21
    gi_wp2_with fail
    refine ⟨trivial, nodepth, ?_⟩
    refine (callsIn_wide.2 (of12 _ _ _ _)).mono ?_
    rintro e w23 ⟨rfl, ht⟩
    have HL23 := Lib.hid (HL22.out.touch ht)
    clear ht HL22
    gi_wp2_with fail
    refine ⟨trivial, nodepth, ?_⟩
    refine (callsIn_wide.2 (of12 _ _ _ _)).mono ?_
    rintro e w24 ⟨rfl, ht⟩
    have HL24 := Lib.hid (HL23.out.touch ht)
    clear ht HL23
    gi_wp2_with fail
    refine ⟨trivial, nodepth, ?_⟩
    refine (callsIn_wide.2 (Follows_is _ _ [⟨1, true, 0⟩, ⟨5, true, 1⟩] 1 1 false far12C (own_facts [⟨1, true, 0⟩, ⟨5, true, 1⟩] rfl (by decide) ((HL24.out.alloc _ _).box 11 rfl)) (by decide) rfl rfl)).mono ?_
    rintro e w25 ⟨rfl, ht⟩
    have HL25 := Lib.hid (HL24.out.tal1 ht)
    simp only [List.nil_append, List.cons_append] at HL25
    clear ht HL24
    gi_wp2_with fail
    refine ⟨trivial, nodepth, ?_⟩
    refine (callsIn_wide.2 (of12 _ _ _ _)).mono ?_
    rintro e w26 ⟨rfl, ht⟩
    have HL26 := Lib.hid (HL25.out.touch ht)
    clear ht HL25
    gi_wp2_with fail
    refine ⟨trivial, nodepth, ?_⟩
    refine (callsIn_wide.2 (of12 _ _ _ _)).mono ?_
    rintro e w27 ⟨rfl, ht⟩
    have HL27 := Lib.hid (HL26.out.touch ht)
    clear ht HL26
    gi_wp2_with fail
    refine ⟨trivial, nodepth, ?_⟩
    refine (callsIn_wide.2 (Follows_is _ _ [⟨3, true, 0⟩, ⟨3, false, 0⟩] 1 1 false far12D (own_facts [⟨3, true, 0⟩, ⟨3, false, 0⟩] rfl (by decide) ((HL27.out.alloc _ _).box 12 rfl)) (by decide) rfl rfl)).mono ?_
    rintro e w28 ⟨rfl, ht⟩
    have HL28 := Lib.hid (HL27.out.tal1 ht)
    simp only [List.nil_append, List.cons_append] at HL28
    clear ht HL27
    obtain ⟨n0, fn, zn, _, _⟩ := HL28.out.c1 7 rfl
    obtain ⟨r0, fr, zr, _, _⟩ := HL28.out.c1 0 rfl
    gi_wp2
    exact led_ret1 Try.results48 rfl HL28.out 0 rfl rfl 8 rfl (fun W' h => ⟨rfl, h.below⟩)
theorem works12 (w : World) : Calls Try.prog 48 #[] w fun e w' => e = .returned (.bool true) ∧ Below w.heap.size w w' := (callsIn_wide (n := 0)).1 (works12_in 0 w)
end Go.Proofs.Ytegebecogbebaaa
