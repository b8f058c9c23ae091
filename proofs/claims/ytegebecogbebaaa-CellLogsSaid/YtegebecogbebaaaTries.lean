/-
  Layer 3: the iterator that Tries makes (spin.go): each try is done when the loop comes to it.
-/
import Derived.Test.YtegebecogbebaaaSpin
import Derived.Test.YtegebecogbebaaaRange
import Derived.Shelf.RegionOpen
import Derived.OwnWalkIn
import Derived.TacticsInMore
import Derived.LoopNIn
import Derived.LoopIn
namespace Go.Proofs.Ytegebecogbebaaa
open Go.RowKit Go.Shelf
set_option maxRecDepth 100000
set_option linter.unusedVariables false
attribute [local go_sem] Oper.semAt_some

/-- The arena behind k tries. -/
def tryS (s : Ar) (at_ : Int) : Nat → Ar
  | 0 => s
  | k + 1 => ((tryS s at_ k).swap at_ 0 1).1
/-- What try number k tells. -/
def tryD (s : Ar) (at_ : Int) (k : Nat) : Bool := ((tryS s at_ k).swap at_ 0 1).2.1.did
def tryE (s : Ar) (at_ : Int) (k : Nat) : Nat := ((tryS s at_ k).swap at_ 0 1).2.2
/-- No try ahead of number k has got the lock. -/
def tryAll (s : Ar) (at_ : Int) (k : Nat) : Prop := ∀ j, j < k → tryD s at_ j = false ∧ tryE s at_ j = 0

/-- No try ahead of number k has got the lock (d: what a try tells; er: its error). -/
def allNo (d : Nat → Bool) (er : Nat → Nat) (k : Nat) : Prop := ∀ j, j < k → d j = false ∧ er j = 0
def TriesFin (d : Nat → Bool) (er : Nat → Nat) (most : Int) (b : Nat × Bool) : Prop :=
  (b = (most.toNat, false) ∧ allNo d er b.1) ∨ (∃ k : Nat, b = (k + 1, false) ∧ (k : Int) < most ∧ allNo d er k ∧ d k = true ∧ er k = 0) ∨ (b.2 = true ∧ (b.1 : Int) < most ∧ allNo d er b.1 ∧ er b.1 ≠ 0)

set_option maxHeartbeats 1000000 in
theorem tries_iter (n l : Nat) (pa : Option Addr) (bm ba bt : Nat) (at_ most : Int) (hmost : most ≤ 9223372036854775807) (d : Nat → Bool) (er : Nat → Nat) (J : Nat × Bool → World → Prop) (Jx : World → Prop)
    (hmem : ∀ b W, J b W → W.cell? ⟨bm, 0, none⟩ = some (.int .i64 most) ∧ W.cell? ⟨ba, 0, none⟩ = some (.pointer pa) ∧ W.cell? ⟨bt, 0, none⟩ = some (.int .i64 at_))
    (htry : ∀ k W, J (k, false) W → Calls Try.prog 18 #[.pointer pa, .int .i64 at_] W fun e W' => e = .returned (.tuple #[.bool (d k), .int .i64 (er k : Int)]) ∧ J (k, true) W')
    (hY : ∀ (k : Nat) (W : World), (k : Int) < most → er k = 0 → allNo d er k → J (k, true) W → YieldAt Fence.wide (n - 1) Try.prog l #[.int .i64 (k : Int), .bool (d k)] W (Told (J (k + 1, false)) Jx))
    (W : World) (h0 : J (0, false) W) :
    CallsIn Fence.wide n Try.prog 62 #[.func (.yield l) #[] #[], .pointer (some ⟨bm, 0, none⟩), .pointer (some ⟨ba, 0, none⟩), .pointer (some ⟨bt, 0, none⟩)] W (IterEnd (TriesFin d er most) J Jx) := by
  refine callsIn_of_wp Try.func62 rfl trivial ?_ rfl
  simp only [Try.ntmps62, List.size_toArray, List.length_cons, List.length_nil, Nat.reduceAdd, Nat.reduceSub, Array.replicate_succ, Array.replicate_zero, List.push_toArray, List.append_toArray, List.nil_append, List.cons_append]
  have HM := Lib.hid hmem
  have HT := Lib.hid htry
  have HY := Lib.hid hY
  clear hmem htry hY
  gi_wp2
  gi_loopw [5] (fun i wr => ∃ k : Nat, i = .int .i64 (k : Int) ∧ J (k, false) wr ∧ allNo d er k ∧ k ≤ most.toNat) (fun i _ => (most - intOf i).toNat)
  case atStart => exact ⟨0, rfl, h0, fun j hj => by omega, Nat.zero_le _⟩
  case round =>
    obtain ⟨k, rfl, hj, hall, hkm⟩ := hrel
    obtain ⟨hm1, hm2, hm3⟩ := HM.out _ _ hj
    have HA := Lib.hid hall
    have HJ := Lib.hid hj
    have HT1 := Lib.hid (HT.out _ _ hj)
    clear hall hj
    by_cases hlt : (k : Int) < most
    · by_cases he : er k = 0
      · have hE : er k = 0 := he
        clear he
        cases hd : d k with
        | true =>
          have HD := Lib.hid hd
          rw [hd, hE] at HT1
          gi_wp2_with fail
          refine ⟨trivial, nodepth, ?_⟩
          refine (callsIn_wide.2 HT1.out).mono ?_
          rintro e W1 ⟨rfl, hj1⟩
          have hy0 := HY.out k W1 hlt hE HA.out hj1
          rw [hd] at hy0
          obtain ⟨fn, tmps, assign, body, hy, hR⟩ := hy0
          have HR := Lib.hid hR
          clear hR hj1 hd
          gi_wp2_with fail
          refine ⟨nodepth, HR.out.mono ?_⟩
          rintro e W2 (⟨rfl, hj2⟩ | ⟨rfl, hj2⟩)
          · have HJ2 := Lib.hid hj2
            clear hj2
            gi_wp2
            refine bodyPost_ret (results_none rfl _ _ _) rfl ?_
            exact ⟨⟨_, rfl⟩, .inl ⟨(k + 1, false), .inr (.inl ⟨k, rfl, hlt, HA.out, HD.out, hE⟩), HJ2.out⟩⟩
          · have HJ2 := Lib.hid hj2
            clear hj2
            gi_wp2
            refine bodyPost_ret (results_none rfl _ _ _) rfl ?_
            exact ⟨⟨_, rfl⟩, .inr HJ2.out⟩
        | false =>
          have HD := Lib.hid hd
          rw [hd, hE] at HT1
          gi_wp2_with fail
          refine ⟨trivial, nodepth, ?_⟩
          refine (callsIn_wide.2 HT1.out).mono ?_
          rintro e W1 ⟨rfl, hj1⟩
          have hy0 := HY.out k W1 hlt hE HA.out hj1
          rw [hd] at hy0
          obtain ⟨fn, tmps, assign, body, hy, hR⟩ := hy0
          have HR := Lib.hid hR
          clear hR hj1 hd
          gi_wp2_with fail
          refine ⟨nodepth, HR.out.mono ?_⟩
          rintro e W2 (⟨rfl, hj2⟩ | ⟨rfl, hj2⟩)
          · have HJ2 := Lib.hid hj2
            clear hj2
            have hE' := Lib.hid hE
            clear hE
            gi_wp2
            go_roundw
            case rel => exact ⟨k + 1, by go_num, HJ2.out, fun j hj => by
              by_cases hjk : j < k
              · exact HA.out j hjk
              · obtain rfl : j = k := by omega
                exact ⟨HD.out, hE'.out⟩, by omega⟩
            case measure => simp [intOf]; omega
          · have HJ2 := Lib.hid hj2
            clear hj2
            gi_wp2
            refine bodyPost_ret (results_none rfl _ _ _) rfl ?_
            exact ⟨⟨_, rfl⟩, .inr HJ2.out⟩
      · have hE : ((er k : Int) != 0) = true := by simp; omega
        have HE := Lib.hid he
        clear he
        gi_wp2_with fail
        refine ⟨trivial, nodepth, ?_⟩
        refine (callsIn_wide.2 HT1.out).mono ?_
        rintro e W1 ⟨rfl, hj1⟩
        have HJ1 := Lib.hid hj1
        clear hj1
        gi_wp2
        refine ⟨fun _ h => (by cases h), ?_⟩
        gi_wp2
        refine bodyPost_ret (results_none rfl _ _ _) rfl ?_
        exact ⟨⟨_, rfl⟩, .inl ⟨(k, true), .inr (.inr ⟨rfl, hlt, HA.out, HE.out⟩), HJ1.out⟩⟩
    · gi_wp2
      go_end0
      obtain rfl : k = most.toNat := by omega
      exact ⟨⟨_, rfl⟩, .inl ⟨(most.toNat, false), .inl ⟨rfl, HA.out⟩, HJ.out⟩⟩
end Go.Proofs.Ytegebecogbebaaa
