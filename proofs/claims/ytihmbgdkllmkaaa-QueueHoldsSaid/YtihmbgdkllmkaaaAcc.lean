/-
  Layer 1: 'missing', 'access' and the four accesses (cell.go) of an arena that is there: each is one access, logged.
-/
import Derived.Test.YtihmbgdkllmkaaaNote
import Derived.RangeFuncLeaves
import Derived.Shelf.Abstract
import Derived.Deep.QuietTactic
import Derived.BigQuiet
namespace Go.Proofs.Ytihmbgdkllmkaaa
open Go.RowKit Go.Shelf
set_option maxRecDepth 100000
set_option linter.unusedVariables false

theorem missing_no (g : Nat) (n : Nat) (w : World) (hc : w.cell? ⟨g, 2, none⟩ = some (.int .i64 (n : Int))) (h : 1 ≤ n) :
   Calls Try.prog 108 #[.pointer (some ⟨g, 0, none⟩)] w fun e w' => e = .returned (.bool false) ∧ w = w' := by
  have h : ((n : Int) == 0) = false := by simp; omega
  go_enter Try.func108, Try.ntmps108
  go_wp2
  go_ret
  exact ⟨rfl, rfl⟩
theorem missing_zero (g : Nat) (w : World) (hc : w.cell? ⟨g, 2, none⟩ = some (.int .i64 0)) :
   Calls Try.prog 108 #[.pointer (some ⟨g, 0, none⟩)] w fun e w' => e = .returned (.bool true) ∧ w = w' := by
  go_enter Try.func108, Try.ntmps108
  go_wp2
  go_ret
  exact ⟨rfl, rfl⟩
theorem missing_nil (w : World) :
   Calls Try.prog 108 #[.pointer none] w fun e w' => e = .returned (.bool true) ∧ w = w' := by
  go_enter Try.func108, Try.ntmps108
  go_wp2
  go_ret
  exact ⟨rfl, rfl⟩

/-- Only draws. -/
def Quiet (w w' : World) : Prop := ∃ n, w' = w.drewN n
theorem Quiet.refl (w : World) : Quiet w w := ⟨0, rfl⟩

/-- An access to cell i is done. -/
def Ar.acc (s : Ar) (op i now : Nat) (did : Bool) : Ar := { s with C := s.C.set i now, L := s.L ++ [⟨op, i, s.C.getD i 0, now, did⟩] }

/-- The arena at g is s then; only its own blocks, and new ones, have turned. -/
def ArTo (w w' : World) (g : Nat) (fp : List Nat) (s : Ar) : Prop := ∃ fp', IsAr w' g fp' s ∧ Moved fp fp' w w'

theorem wd_set {l : List Nat} (h : ∀ n ∈ l, Wd n) (i n : Nat) (hn : Wd n) : ∀ m ∈ l.set i n, Wd m := by
  intro m hm
  rcases List.mem_or_eq_of_mem_set hm with h1 | h1
  · exact h m h1
  · rw [h1]; exact hn

theorem acc_close {w wq w3 : World} {g g2 cap : Nat} {v1 : Value} {r : List Acc} {s : Ar} {i now op : Nat} {did : Bool} {was : Nat}
    (hA : ArAt w g v1 (.slice (some ⟨g2, 0, none⟩) s.C.length cap) r s) (hi : i < s.C.length) (hwas : s.C[i] = was) (hnow : Wd now) (hq : Quiet w wq)
    (hN : Noted (wq.setCell ⟨g2, i, none⟩ (.int .u64 (now : Int))) w3 g s.L (.int .i64 (s.most : Int)) v1 (.slice (some ⟨g2, 0, none⟩) s.C.length cap) ⟨op, i, was, now, did⟩) :
    ArTo w w3 g (g :: (sb v1 ++ sb (.slice (some ⟨g2, 0, none⟩) s.C.length cap))) (s.acc op i now did) := by
  obtain ⟨nq, rfl⟩ := hq
  obtain ⟨v1', r', hB, hL, hR, hT, hF⟩ := hN
  have hne : g ≠ g2 := fun h => own_ne hA.cel hA.blk (by decide) (by simp [sb, Value.ownBlock, h])
  have hc2 : ((w.drewN nq).setCell ⟨g2, i, none⟩ (.int .u64 (now : Int))).ownsRow 0 127 1 (.slice (some ⟨g2, 0, none⟩) s.C.length cap) s.C.length (words (s.C.set i now)) := by
    have := own_set (own_drewN hA.cel nq) i (.int .u64 (now : Int))
    rwa [← words_set] at this
  have h12 := own_ne2 hA.cel hA.log (by decide)
  have hc3 : w3.ownsRow 0 127 1 (.slice (some ⟨g2, 0, none⟩) s.C.length cap) s.C.length (words (s.C.set i now)) := own_touch hc2 hT (fun k hk => by
    simp only [List.mem_cons, not_or]
    refine ⟨?_, h12 k hk⟩
    rintro rfl
    exact own_ne hA.cel hA.blk (by decide) hk)
  refine ⟨g :: (sb v1' ++ sb (.slice (some ⟨g2, 0, none⟩) s.C.length cap)), ⟨v1', _, r', ⟨?_, hL, ?_, ?_, hA.most1, hA.most2, ?_, ?_⟩, rfl⟩, ?_, ?_⟩
  · simpa [Ar.acc] using hB
  · simpa [Ar.acc] using hc3
  · have : s.C.getD i 0 = was := by simp [List.getD, hi, hwas]
    simp only [Ar.acc, this]
    exact hR
  · simpa [Ar.acc] using hA.len
  · exact wd_set hA.wd i now hnow
  · refine ((((Touch.refl _ w).drewN nq).setCell ⟨g2, i, none⟩ _ (.inl ?_)).trans hT ?_)
    · simp [sb, Value.ownBlock]
    · intro k hk
      simp only [List.mem_cons] at hk
      rcases hk with rfl | hk
      · simp
      · exact .inl (by simp [hk])
  · intro k hk
    simp only [List.mem_cons, List.mem_append] at hk ⊢
    rcases hk with rfl | hk | hk
    · simp
    · rcases hF k hk with h | h
      · simp [h]
      · exact .inr (by simpa [World.setCell] using h)
    · simp [hk]

set_option maxHeartbeats 1000000 in
theorem access_did (w : World) (g : Nat) (v1 v2 : Value) (r : List Acc) (s : Ar) (op i : Nat) (fc : Nat) (caps : Array Value) (now : Nat) (hnow : Wd now) (hA : ArAt w g v1 v2 r s) (hi : i < s.C.length)
    (eg : ∀ args w, (callFunc fc args).run Try.prog w = .ok (.enter fc args) w)
    (hch : Calls Try.prog fc (#[.int .u64 (s.C[i] : Int)] ++ caps) w fun e w' => e = .returned (.tuple #[.int .u64 (now : Int), .bool true]) ∧ Quiet w w') (hn : s.L.length < 4611686018427387904) :
    Calls Try.prog 109 #[.pointer (some ⟨g, 0, none⟩), .int .i64 (op : Int), .int .i64 (i : Int), .func (.func fc) #[] caps] w fun e w' =>
      e = .returned (.tuple #[.int .u64 (s.C[i] : Int), .bool true, .int .i64 0]) ∧ ArTo w w' g (g :: (sb v1 ++ sb v2)) (s.acc op i now true) := by
  obtain ⟨g2, cap, cur, rfl, hcur, hc1, hc2, hc3, hc4⟩ := own_form hA.cel (by omega)
  have hci := own_cell hA.cel i (by rw [words_length]; exact hi)
  have hfi := own_frozen hA.cel i
  have h3 := hA.blk.cell 3
  have h2 := hA.blk.cell 2
  simp [words] at h3 h2 hci
  have hbd : (i : Int) < (s.C.length : Int) := by omega
  have hne : g ≠ g2 := hA.blk.ne hcur (by decide)
  have hm1 := hA.most1
  have hlen := hA.len
  have hm2 := hA.most2
  have hgl := hA.blk.lt
  have hg2 := hcur.lt
  have HC := Lib.hid hch
  obtain ⟨was, hwas⟩ : ∃ was, s.C[i] = was := ⟨_, rfl⟩
  rw [hwas] at hci HC ⊢
  have HF := Lib.hid (fun w1 w3 hq hN => acc_close (w := w) (wq := w1) (w3 := w3) (op := op) (did := true) hA hi hwas hnow hq hN)
  have HA := Lib.hid hA
  have HCu := Lib.hid hcur
  clear hch hA hc3 hc4 hwas hcur
  go_enter Try.func109, Try.ntmps109
  go_wp2_with (go_at_call 108; refine (missing_no _ _ _ h2 hm1).mono ?_; rintro e w' ⟨rfl, rfl⟩)
  refine HC.out.mono ?_
  rintro e w1 ⟨rfl, hq⟩
  have HQ := Lib.hid hq
  obtain ⟨nq, rfl⟩ := hq
  go_wp2_with fail
  refine (note_any _ g s.L r (.int .i64 (s.most : Int)) v1 (.slice (some ⟨g2, 0, none⟩) s.C.length cap) ⟨op, i, was, now, true⟩ ?_ ?_ HA.out.ring hn).mono ?_
  · exact Blk.drewN (HA.out.blk.far hne _) nq
  · exact own_drewN (own_setCell HA.out.log ⟨g2, i, none⟩ _ (fun h => (own_ne2 HA.out.log HA.out.cel (by decide)) g2 h (by simp [sb, Value.ownBlock]))) nq
  rintro e w3 ⟨rfl, hN⟩
  have HN := Lib.hid hN
  clear hN
  go_wp2
  refine bodyPost_ret (v := .tuple #[.int .u64 (was : Int), .bool true, .int .i64 0]) (by simp [results, go_sem]) rfl ⟨rfl, HF.out _ _ HQ.out HN.out⟩
set_option maxHeartbeats 1000000 in
theorem access_not (w : World) (g : Nat) (v1 v2 : Value) (r : List Acc) (s : Ar) (op i : Nat) (fc : Nat) (caps : Array Value) (now0 : Nat) (hA : ArAt w g v1 v2 r s) (hi : i < s.C.length)
    (eg : ∀ args w, (callFunc fc args).run Try.prog w = .ok (.enter fc args) w)
    (hch : Calls Try.prog fc (#[.int .u64 (s.C[i] : Int)] ++ caps) w fun e w' => e = .returned (.tuple #[.int .u64 (now0 : Int), .bool false]) ∧ Quiet w w') (hn : s.L.length < 4611686018427387904) :
    Calls Try.prog 109 #[.pointer (some ⟨g, 0, none⟩), .int .i64 (op : Int), .int .i64 (i : Int), .func (.func fc) #[] caps] w fun e w' =>
      e = .returned (.tuple #[.int .u64 (s.C[i] : Int), .bool false, .int .i64 0]) ∧ ArTo w w' g (g :: (sb v1 ++ sb v2)) (s.acc op i s.C[i] false) := by
  obtain ⟨g2, cap, cur, rfl, hcur, hc1, hc2, hc3, hc4⟩ := own_form hA.cel (by omega)
  have hci := own_cell hA.cel i (by rw [words_length]; exact hi)
  have hfi := own_frozen hA.cel i
  have h3 := hA.blk.cell 3
  have h2 := hA.blk.cell 2
  simp [words] at h3 h2 hci
  have hbd : (i : Int) < (s.C.length : Int) := by omega
  have hne : g ≠ g2 := hA.blk.ne hcur (by decide)
  have hm1 := hA.most1
  have hlen := hA.len
  have hm2 := hA.most2
  have hgl := hA.blk.lt
  have hg2 := hcur.lt
  have HC := Lib.hid hch
  obtain ⟨was, hwas⟩ : ∃ was, s.C[i] = was := ⟨_, rfl⟩
  rw [hwas] at hci HC ⊢
  have HF := Lib.hid (fun w1 w3 hq hN => acc_close (w := w) (wq := w1) (w3 := w3) (op := op) (did := false) (now := was) hA hi hwas (hwas ▸ hA.wd _ (List.getElem_mem hi)) hq hN)
  have HA := Lib.hid hA
  have HCu := Lib.hid hcur
  clear hch hA hc3 hc4 hwas hcur
  go_enter Try.func109, Try.ntmps109
  go_wp2_with (go_at_call 108; refine (missing_no _ _ _ h2 hm1).mono ?_; rintro e w' ⟨rfl, rfl⟩)
  refine HC.out.mono ?_
  rintro e w1 ⟨rfl, hq⟩
  have HQ := Lib.hid hq
  obtain ⟨nq, rfl⟩ := hq
  go_wp2_with fail
  refine (note_any _ g s.L r (.int .i64 (s.most : Int)) v1 (.slice (some ⟨g2, 0, none⟩) s.C.length cap) ⟨op, i, was, was, false⟩ ?_ ?_ HA.out.ring hn).mono ?_
  · exact Blk.drewN (HA.out.blk.far hne _) nq
  · exact own_drewN (own_setCell HA.out.log ⟨g2, i, none⟩ _ (fun h => (own_ne2 HA.out.log HA.out.cel (by decide)) g2 h (by simp [sb, Value.ownBlock]))) nq
  rintro e w3 ⟨rfl, hN⟩
  have HN := Lib.hid hN
  clear hN
  go_wp2
  refine bodyPost_ret (v := .tuple #[.int .u64 (was : Int), .bool false, .int .i64 0]) (by simp [results, go_sem]) rfl ⟨rfl, HF.out _ _ HQ.out HN.out⟩

set_option maxHeartbeats 1000000 in
theorem access_out (w : World) (g : Nat) (v1 v2 : Value) (r : List Acc) (s : Ar) (op : Int) (at_ : Int) (f : Value) (hA : ArAt w g v1 v2 r s) (hi : at_ < 0 ∨ (s.C.length : Int) ≤ at_) :
    Calls Try.prog 109 #[.pointer (some ⟨g, 0, none⟩), .int .i64 op, .int .i64 at_, f] w fun e w' =>
      e = .returned (.tuple #[.int .u64 0, .bool false, .int .i64 4]) ∧ w = w' := by
  obtain ⟨a2, cap, rfl, hc1, hc2⟩ := own_val hA.cel
  have h3 := hA.blk.cell 3
  have h2 := hA.blk.cell 2
  simp at h3 h2
  have hm1 := hA.most1
  clear hA
  rcases hi with hi | hi
  · go_enter Try.func109, Try.ntmps109
    go_wp2_with (go_at_call 108; refine (missing_no _ _ _ h2 hm1).mono ?_; rintro e w' ⟨rfl, rfl⟩)
    refine bodyPost_ret (v := .tuple #[.int .u64 0, .bool false, .int .i64 4]) (by simp [results, go_sem]) rfl ⟨rfl, rfl⟩
  · have hi0 : ¬ at_ < 0 := by omega
    go_enter Try.func109, Try.ntmps109
    go_wp2_with (go_at_call 108; refine (missing_no _ _ _ h2 hm1).mono ?_; rintro e w' ⟨rfl, rfl⟩)
    refine bodyPost_ret (v := .tuple #[.int .u64 0, .bool false, .int .i64 4]) (by simp [results, go_sem]) rfl ⟨rfl, rfl⟩

/-- No arena: nil, or one that was not made by New. -/
def NoAr (w : World) (p : Value) : Prop := p = .pointer none ∨ ∃ g, p = .pointer (some ⟨g, 0, none⟩) ∧ w.cell? ⟨g, 2, none⟩ = some (.int .i64 0)
theorem missing_yes (p : Value) (w : World) (h : NoAr w p) : Calls Try.prog 108 #[p] w fun e w' => e = .returned (.bool true) ∧ w = w' := by
  rcases h with rfl | ⟨g, rfl, hc⟩
  · exact missing_nil w
  · exact missing_zero g w hc

theorem access_none (w : World) (p : Value) (op : Int) (at_ : Int) (f : Value) (h : NoAr w p) :
    Calls Try.prog 109 #[p, .int .i64 op, .int .i64 at_, f] w fun e w' => e = .returned (.tuple #[.int .u64 0, .bool false, .int .i64 1]) ∧ w = w' := by
  go_enter Try.func109, Try.ntmps109
  go_wp2_with (go_at_call 108; refine (missing_yes _ _ h).mono ?_; rintro e w' ⟨rfl, rfl⟩)
  refine bodyPost_ret (v := .tuple #[.int .u64 0, .bool false, .int .i64 1]) (by simp [results, go_sem]) rfl ⟨rfl, rfl⟩
end Go.Proofs.Ytihmbgdkllmkaaa
