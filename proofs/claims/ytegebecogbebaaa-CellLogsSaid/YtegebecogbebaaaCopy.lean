/-
  slices.Clone at two element types; layer 1's Copy (cell.go).
-/
import Derived.Test.YtegebecogbebaaaLedAr
import Derived.Test.YtegebecogbebaaaRef01
import Derived.Deep.RegionHeld3
namespace Go.Proofs.Ytegebecogbebaaa
open Go.RowKit Go.Shelf
set_option maxRecDepth 100000
set_option linter.unusedVariables false
set_option linter.unusedSimpArgs false

/-- A row of one's own, with the same cells. -/
def Cloned (w : World) (e : TypeId) (size n : Nat) (xs : List Value) (en : Ending) (w' : World) : Prop :=
  ∃ aa cap, en = .returned (.slice aa n cap) ∧ w'.ownsRow 0 e size (.slice aa n cap) n xs ∧ Touch [] w w' ∧ ∀ b ∈ sb (.slice aa n cap), w.heap.size ≤ b

theorem cloned_close {w w1 : World} {e : TypeId} {size n cap : Nat} {xs : List Value} {aa : Option Addr} (hown : w1.ownsRow 0 e size (.slice aa n cap) n xs) (hgrow : (w.alloc (.cells #[] e)).grownBy w1 (Value.slice (some ⟨w.heap.size, 0, none⟩) 0 0).ownBlock)
    (hat : (Value.slice aa n cap).ownBlock = (Value.slice (some ⟨w.heap.size, 0, none⟩) 0 0).ownBlock ∨ (Value.slice aa n cap).ownBlock = some (w.alloc (.cells #[] e)).heap.size) :
    Cloned w e size n xs (.returned (.slice aa n cap)) w1 := by
  refine ⟨_, _, rfl, hown, ((Touch.refl [] w).alloc _).grown hgrow (fun k hk => .inr (by simp [Value.ownBlock] at hk; omega)), fun b hb => ?_⟩
  rcases hat with h | h
  · rw [sb, h] at hb; simp [Value.ownBlock] at hb; omega
  · rw [sb, h] at hb; simp at hb; omega

set_option maxHeartbeats 1000000 in
theorem cloneAcc (w : World) (v : Value) (l : List Acc) (h : w.ownsRow 0 54 5 v l.length (accCells l)) (hl : l.length ≤ 1048576) :
    Calls Try.prog 64 #[v] w (Cloned w 54 5 l.length (accCells l)) := by
  obtain ⟨j0, hj, jz0, jz1, jz2⟩ := info_parts info_access
  have HA := Lib.hid h
  have hnil := fun (w : World) (a : Option Addr) (n c : Nat) => Lib.run_eql_slice_nil (P := Try.prog) w 57 54 a n c 0 0 Try.underlying57
  rcases h.2 with ⟨rfl, h0⟩ | ⟨g, cap, cur, rfl, _⟩
  · have HN : Hid (Cloned w 54 5 l.length (accCells l) (.returned (.slice none 0 0)) w) := by
      have h := HA.out
      rw [h0] at h ⊢
      exact ⟨none, 0, rfl, h, Touch.refl _ _, by simp [sb, Value.ownBlock]⟩
    clear h
    go_enter Try.func64, Try.ntmps64
    go_wp2
    go_ret
    exact HN.out
  · clear h
    have HE := Lib.hid (own_empty w 54 5)
    go_enter Try.func64, Try.ntmps64
    go_wp2_with (at_builtin; go_must (refine wpList_append_src _ rfl (.tmp 5) (.tmp 6) 57 rfl 54 j0 _ 5 40 Try.underlying57 hj jz0 jz1 jz2 rfl (by decide) (.slice (some ⟨w.heap.size, 0, none⟩) 0 0) 0 [] rfl HE.out (.slice (some ⟨g, 0, none⟩) l.length cap) l.length (accCells l) rfl (HA.out.alloc _) (accs_one _) (by simp only [maxLen]; omega) (by omega) ?_); intro a1 c1 w1 hown hgrow hat; simp only [Nat.zero_add, List.nil_append] at hown hat ⊢; have H1 := Lib.hid (cloned_close hown hgrow hat); clear hown hgrow hat)
    go_ret
    exact H1.out
set_option maxHeartbeats 1000000 in
theorem cloneWords (w : World) (v : Value) (l : List Nat) (h : w.ownsRow 0 39 1 v l.length (words l)) (hl : l.length ≤ 1048576) :
    Calls Try.prog 65 #[v] w (Cloned w 39 1 l.length (words l)) := by
  obtain ⟨j0, hj, jz0, jz1, jz2⟩ := info_parts info_uint64
  have HA := Lib.hid h
  have hnil := fun (w : World) (a : Option Addr) (n c : Nat) => Lib.run_eql_slice_nil (P := Try.prog) w 38 39 a n c 0 0 Try.underlying38
  rcases h.2 with ⟨rfl, h0⟩ | ⟨g, cap, cur, rfl, _⟩
  · have HN : Hid (Cloned w 39 1 l.length (words l) (.returned (.slice none 0 0)) w) := by
      have h := HA.out
      rw [h0] at h ⊢
      exact ⟨none, 0, rfl, h, Touch.refl _ _, by simp [sb, Value.ownBlock]⟩
    clear h
    go_enter Try.func65, Try.ntmps65
    go_wp2
    go_ret
    exact HN.out
  · clear h
    have HE := Lib.hid (own_empty w 39 1)
    go_enter Try.func65, Try.ntmps65
    go_wp2_with (at_builtin; go_must (refine wpList_append_src _ rfl (.tmp 5) (.tmp 6) 38 rfl 39 j0 _ 1 8 Try.underlying38 hj jz0 jz1 jz2 rfl (by decide) (.slice (some ⟨w.heap.size, 0, none⟩) 0 0) 0 [] rfl HE.out (.slice (some ⟨g, 0, none⟩) l.length cap) l.length (words l) rfl (HA.out.alloc _) (words_one _) (by simp only [maxLen]; omega) (by omega) ?_); intro a1 c1 w1 hown hgrow hat; simp only [Nat.zero_add, List.nil_append] at hown hat ⊢; have H1 := Lib.hid (cloned_close hown hgrow hat); clear hown hgrow hat)
    go_ret
    exact H1.out

/-- What Copy tells and leaves. -/
def Copied (w : World) (s : Ar) (e : Ending) (w' : World) : Prop := ∃ g' fp', e = .returned (.pointer (some ⟨g', 0, none⟩)) ∧ IsAr w' g' fp' s ∧ (∀ k ∈ fp', w.heap.size ≤ k) ∧ Touch [] w w'

theorem copy_close {w w1 w2 : World} {g : Nat} {v1 v2 v1' v2' : Value} {r : List Acc} {s : Ar} (hA : ArAt w g v1 v2 r s) (ho1 : w1.ownsRow 0 54 5 v1' r.length (accCells r)) (ht1 : Touch [] w.drew w1) (hb1 : ∀ b ∈ sb v1', w.drew.heap.size ≤ b)
    (ho2 : w2.ownsRow 0 39 1 v2' s.C.length (words s.C)) (ht2 : Touch [] w1 w2) (hb2 : ∀ b ∈ sb v2', w1.heap.size ≤ b) :
    Copied w s (.returned (.pointer (some ⟨w2.heap.size, 0, none⟩))) (w2.alloc (.cells #[.int .u64 (s.L.length : Int), v1', .int .i64 (s.most : Int), v2'] 66)) := by
  have ht1' : Touch [] w w1 := ((Touch.refl [] w).drew).trans ht1 (by simp)
  have hs1 := ht1'.size
  have hs2 := ht2.size
  refine ⟨_, _, rfl, ⟨v1', v2', r, ⟨Blk.new w2 _ _, (own_touch ho1 ht2 (by simp)).alloc _, ho2.alloc _, hA.ring, hA.most1, hA.most2, hA.len, hA.wd⟩, rfl⟩, ?_, (ht1'.trans ht2 (by simp)).alloc _⟩
  intro k hk
  simp only [List.mem_cons, List.mem_append] at hk
  rcases hk with rfl | hk | hk
  · omega
  · exact hb1 k hk
  · have := hb2 k hk; omega

set_option maxHeartbeats 2000000 in
theorem Copy_any (w : World) (g : Nat) (fp : List Nat) (s : Ar) (hI : IsAr w g fp s) : Calls Try.prog 37 #[.pointer (some ⟨g, 0, none⟩)] w (Copied w s) := by
  obtain ⟨v1, v2, r, hA, rfl⟩ := hI
  have h0 := hA.blk.cell 0
  have h1 := hA.blk.cell 1
  have h2 := hA.blk.cell 2
  have h3 := hA.blk.cell 3
  simp at h0 h1 h2 h3
  have hm1 := hA.most1
  have hgl := hA.blk.lt
  have hr : r.length ≤ 1024 := by have := hA.ring.1; omega
  have hlen := hA.len
  have hm2 := hA.most2
  have HA := Lib.hid hA
  clear hA
  go_enter Try.func37, Try.ntmps37
  go_wp2_with (go_at_call 51; refine (missing_no _ _ _ h2 hm1).mono ?_; rintro e w' ⟨rfl, rfl⟩)
  go_region_held3 (fun w' => w'.cell? ⟨g, 0, none⟩ = some (.int .u64 (s.L.length : Int)) ∧ w'.cell? ⟨g, 1, none⟩ = some v1 ∧ w'.cell? ⟨g, 2, none⟩ = some (.int .i64 (s.most : Int)) ∧ w'.cell? ⟨g, 3, none⟩ = some v2) (go_keep)
    (first
    | (go_at_call 64; refine (cloneAcc _ v1 r (own_drew HA.out.log) (by omega)).mono ?_; rintro e w1 ⟨a1, c1, rfl, ho1, ht1, hb1⟩; have k1 := HA.out.blk.drew.touch ht1 (by simp); have h0 := k1.cell 0; have h1 := k1.cell 1; have h2 := k1.cell 2; have h3 := k1.cell 3; simp at h0 h1 h2 h3; have HO1 := Lib.hid ho1; have HT1 := Lib.hid ht1; have HB1 := Lib.hid hb1; clear ho1 ht1 hb1 k1)
    | (go_at_call 65; refine (cloneWords _ v2 s.C (own_touch (own_drew HA.out.cel) HT1.out (by simp)) (by omega)).mono ?_; rintro e w2 ⟨a2, c2, rfl, ho2, ht2, hb2⟩; have k1 := (HA.out.blk.drew.touch HT1.out (by simp)).touch ht2 (by simp); have h0 := k1.cell 0; have h1 := k1.cell 1; have h2 := k1.cell 2; have h3 := k1.cell 3; simp at h0 h1 h2 h3; have HO2 := Lib.hid ho2; have HT2 := Lib.hid ht2; have HB2 := Lib.hid hb2; clear ho2 ht2 hb2 k1))
  go_wp2
  go_ret
  exact copy_close HA.out HO1.out HT1.out HB1.out HO2.out HT2.out HB2.out
theorem Led.arCopy {T : List Nat} {w0 w : World} {l : List Thing} {g : Nat} {s : Ar} (h : Led T w0 w l) (i : Nat) (hi : l[i]? = some (arena g s)) : Calls Try.prog 37 #[.pointer (some ⟨g, 0, none⟩)] w
    fun e w' => ∃ g', e = .returned (.pointer (some ⟨g', 0, none⟩)) ∧ Led T w0 w' (l ++ [arena g' s]) := by
  obtain ⟨fp, hI⟩ := h.isAr i hi
  refine (Copy_any w g fp s hI).mono ?_
  rintro e w' ⟨g', fp', rfl, hI', hge, ht⟩
  exact ⟨g', rfl, h.new (t' := arena g' s) hI' ⟨ht, fun k hk => .inr (hge k hk)⟩⟩
end Go.Proofs.Ytegebecogbebaaa
