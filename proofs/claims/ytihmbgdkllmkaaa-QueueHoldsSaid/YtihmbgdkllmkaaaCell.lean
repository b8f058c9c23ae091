/-
  Layer 1: Load, Store, Swap, Add, Len, Most, Count, New (cell.go) at the plain model: for every arena that was made by New, and for none.
-/
import Derived.Test.YtihmbgdkllmkaaaAcc
import Derived.Outline
namespace Go.Proofs.Ytihmbgdkllmkaaa
open Go.RowKit Go.Shelf
set_option maxRecDepth 100000
set_option linter.unusedVariables false

/-- One access by a change: the arena then, the access, an error. -/
def Ar.doBy (s : Ar) (op : Nat) (at_ : Int) (chg : Nat → Nat × Bool) : Ar × Acc × Nat :=
  if 0 ≤ at_ ∧ at_ < (s.C.length : Int) then
    (s.acc op at_.toNat (if (chg (s.C.getD at_.toNat 0)).2 then (chg (s.C.getD at_.toNat 0)).1 else s.C.getD at_.toNat 0) (chg (s.C.getD at_.toNat 0)).2,
     ⟨op, at_.toNat, s.C.getD at_.toNat 0, if (chg (s.C.getD at_.toNat 0)).2 then (chg (s.C.getD at_.toNat 0)).1 else s.C.getD at_.toNat 0, (chg (s.C.getD at_.toNat 0)).2⟩, 0)
  else (s, Acc.zero, 4)
def chgLoad (was : Nat) : Nat × Bool := (was, true)
def chgStore (v : Nat) (_ : Nat) : Nat × Bool := (v, true)
def chgSwap (old new : Nat) (was : Nat) : Nat × Bool := (new, was == old)
def chgAdd (n : Nat) (was : Nat) : Nat × Bool := ((was + n) % 18446744073709551616, true)
def Ar.load (s : Ar) (at_ : Int) := s.doBy 1 at_ chgLoad
def Ar.store (s : Ar) (at_ : Int) (v : Nat) := s.doBy 2 at_ (chgStore v)
def Ar.swap (s : Ar) (at_ : Int) (old new : Nat) := s.doBy 3 at_ (chgSwap old new)
def Ar.add (s : Ar) (at_ : Int) (n : Nat) := s.doBy 4 at_ (chgAdd n)

/-- What an access answers, and what it leaves. -/
def Did (w w' : World) (g : Nat) (fp : List Nat) (d : Ar × Acc × Nat) (e : Ending) : Prop :=
  e = .returned (.tuple #[.int .u64 (d.2.1.old : Int), .bool d.2.1.did, .int .i64 (d.2.2 : Int)]) ∧ ArTo w w' g fp d.1

theorem ArTo.refl {w : World} {g : Nat} {fp : List Nat} {s : Ar} (h : IsAr w g fp s) : ArTo w w g fp s := ⟨fp, h, Moved.refl _ _⟩

theorem access_any (w : World) (g : Nat) (fp : List Nat) (s : Ar) (op : Nat) (at_ : Int) (fc : Nat) (caps : Array Value) (chg : Nat → Nat × Bool) (hI : IsAr w g fp s)
    (eg : ∀ args w, (callFunc fc args).run Try.prog w = .ok (.enter fc args) w) (hwd : ∀ was, Wd was → Wd (chg was).1)
    (hch : ∀ was, Wd was → Calls Try.prog fc (#[.int .u64 (was : Int)] ++ caps) w fun e w' => e = .returned (.tuple #[.int .u64 ((chg was).1 : Int), .bool (chg was).2]) ∧ Quiet w w') (hn : s.L.length < 4611686018427387904) :
    Calls Try.prog 109 #[.pointer (some ⟨g, 0, none⟩), .int .i64 (op : Int), .int .i64 at_, .func (.func fc) #[] caps] w fun e w' => Did w w' g fp (s.doBy op at_ chg) e := by
  obtain ⟨v1, v2, r, hA, rfl⟩ := hI
  by_cases hin : 0 ≤ at_ ∧ at_ < (s.C.length : Int)
  · obtain ⟨i, rfl⟩ := Int.eq_ofNat_of_zero_le hin.1
    have hi : i < s.C.length := by omega
    have hg : s.C.getD i 0 = s.C[i] := by simp [List.getD, hi]
    have hw := hA.wd _ (List.getElem_mem hi)
    have hd : s.doBy op (i : Int) chg = (s.acc op i (if (chg s.C[i]).2 then (chg s.C[i]).1 else s.C[i]) (chg s.C[i]).2, ⟨op, i, s.C[i], if (chg s.C[i]).2 then (chg s.C[i]).1 else s.C[i], (chg s.C[i]).2⟩, 0) := by
      simp only [Ar.doBy, if_pos hin, Int.toNat_natCast, hg]
    rw [hd]
    cases hb : (chg s.C[i]).2 with
    | true =>
      refine (access_did w g v1 v2 r s op i fc caps (chg s.C[i]).1 (hwd _ hw) hA hi eg ?_ hn).mono ?_
      · have := hch s.C[i] hw
        rwa [hb] at this
      · rintro e w' ⟨rfl, h⟩
        exact ⟨rfl, by simpa using h⟩
    | false =>
      refine (access_not w g v1 v2 r s op i fc caps (chg s.C[i]).1 hA hi eg ?_ hn).mono ?_
      · have := hch s.C[i] hw
        rwa [hb] at this
      · rintro e w' ⟨rfl, h⟩
        exact ⟨rfl, by simpa using h⟩
  · have hd : s.doBy op at_ chg = (s, Acc.zero, 4) := by simp only [Ar.doBy, if_neg hin]
    rw [hd]
    refine (access_out w g v1 v2 r s op at_ _ hA (by omega)).mono ?_
    rintro e w' ⟨rfl, rfl⟩
    exact ⟨rfl, ArTo.refl ⟨v1, v2, r, hA, rfl⟩⟩

theorem load_fn (was : Nat) (w : World) : Calls Try.prog 111 #[.int .u64 (was : Int)] w fun e w' => e = .returned (.tuple #[.int .u64 ((chgLoad was).1 : Int), .bool (chgLoad was).2]) ∧ Quiet w w' := by
  go_enter Try.func111, Try.ntmps111
  go_wp2
  go_ret2
  exact ⟨rfl, Quiet.refl w⟩
theorem swap_val (was old new : Nat) (h : Wd was) (h' : Wd old) : Ending.returned (.tuple #[.int .u64 (new : Int), .bool ((was : Int) == (old : Int))]) = .returned (.tuple #[.int .u64 ((chgSwap old new was).1 : Int), .bool (chgSwap old new was).2]) := by
  have : ((was : Int) == (old : Int)) = (was == old) := by rw [Bool.eq_iff_iff]; simp; omega
  rw [this]; rfl
theorem swap_fn (was old new b c : Nat) (w : World) (hw : Wd was) (ho : Wd old) (hb : w.cell? ⟨b, 0, none⟩ = some (.int .u64 (new : Int))) (hc : w.cell? ⟨c, 0, none⟩ = some (.int .u64 (old : Int))) :
    Calls Try.prog 110 #[.int .u64 (was : Int), .pointer (some ⟨b, 0, none⟩), .pointer (some ⟨c, 0, none⟩)] w fun e w' => e = .returned (.tuple #[.int .u64 ((chgSwap old new was).1 : Int), .bool (chgSwap old new was).2]) ∧ Quiet w w' := by
  have H := Lib.hid (swap_val was old new hw ho)
  go_enter Try.func110, Try.ntmps110
  go_wp2
  go_quiet (fail)
  go_wp2
  go_ret2
  refine ⟨?_, ?_⟩
  · rw [← H.out]; simp
  · exact ⟨_, rfl⟩
theorem add_val (was n : Nat) (h : Wd was) (h' : Wd n) : IntKind.u64.wrap ((was : Int) + (n : Int)) = ((chgAdd n was).1 : Int) := by
  simp only [chgAdd, IntKind.wrap_u64]
  omega
theorem ArTo.of_touch {w w1 w' : World} {g : Nat} {fp : List Nat} {s : Ar} (ht : Touch [] w w1) (h : ArTo w1 w' g fp s) : ArTo w w' g fp s := by
  obtain ⟨fp', hI, hm⟩ := h
  exact ⟨fp', hI, (ht.mono (by simp)).trans hm.touch (fun k hk => .inl hk), fun k hk => (hm.fp k hk).imp id (fun h => Nat.le_trans ht.size h)⟩
theorem ArTo.then {w w1 : World} {g : Nat} {fp : List Nat} {s : Ar} (h : ArTo w w1 g fp s) {w' : World} (ht : Touch [] w1 w') : ArTo w w' g fp s := by
  obtain ⟨fp', hI, hm⟩ := h
  exact ⟨fp', hI.touch ht (by simp), hm.touch.trans ht (by simp), hm.fp⟩

section
variable (w : World) (g : Nat) (fp : List Nat) (s : Ar) (at_ : Int) (hI : IsAr w g fp s) (hn : s.L.length < 4611686018427387904)
include hI hn
theorem Load_any : Calls Try.prog 82 #[.pointer (some ⟨g, 0, none⟩), .int .i64 at_] w fun e w' =>
    e = .returned (.tuple #[.int .u64 ((s.load at_).2.1.old : Int), .int .i64 ((s.load at_).2.2 : Int)]) ∧ ArTo w w' g fp (s.load at_).1 := by
  have H := Lib.hid (access_any w g fp s 1 at_ 111 #[] chgLoad hI (enters_of Try.func111 (by kernel_rfl) rfl) (fun _ h => h) (fun was _ => load_fn was w) hn)
  clear hI hn
  go_enter Try.func82, Try.ntmps82
  go_wp2_with fail
  refine H.out.mono ?_
  rintro e w' ⟨rfl, h⟩
  have H2 := Lib.hid h
  clear h
  go_wp2
  go_ret2
  exact ⟨rfl, H2.out⟩
theorem Swap_any (old new : Nat) (ho : Wd old) (hw : Wd new) : Calls Try.prog 80 #[.pointer (some ⟨g, 0, none⟩), .int .i64 at_, .int .u64 (old : Int), .int .u64 (new : Int)] w fun e w' =>
    e = .returned (.tuple #[.int .u64 ((s.swap at_ old new).2.1.old : Int), .bool (s.swap at_ old new).2.1.did, .int .i64 ((s.swap at_ old new).2.2 : Int)]) ∧ ArTo w w' g fp (s.swap at_ old new).1 := by
  have H := Lib.hid (access_any ((w.alloc (.cells #[.int .u64 (old : Int)] 127)).alloc (.cells #[.int .u64 (new : Int)] 127)) g fp s 3 at_ 110 #[.pointer (some ⟨w.heap.size + 1, 0, none⟩), .pointer (some ⟨w.heap.size, 0, none⟩)] (chgSwap old new) ((hI.alloc _).alloc _)
    (enters_of Try.func110 (by kernel_rfl) rfl) (fun _ _ => hw) (fun was hwas => swap_fn was old new _ _ _ hwas ho (by simp) (by simp)) hn)
  have HT := Lib.hid (((Touch.refl [] w).alloc (.cells #[.int .u64 (old : Int)] 127)).alloc (.cells #[.int .u64 (new : Int)] 127))
  clear hI hn
  go_enter Try.func80, Try.ntmps80
  go_wp2_with fail
  refine H.out.mono ?_
  rintro e w' ⟨rfl, h⟩
  have H2 := Lib.hid h
  clear h
  go_wp2
  refine bodyPost_ret (v := .tuple #[.int .u64 ((s.swap at_ old new).2.1.old : Int), .bool (s.swap at_ old new).2.1.did, .int .i64 ((s.swap at_ old new).2.2 : Int)]) (by simp [results, go_sem, Ar.swap]) rfl ⟨rfl, H2.out.of_touch HT.out⟩
end

section
variable (w : World) (g : Nat) (fp : List Nat) (s : Ar) (hI : IsAr w g fp s)
include hI
theorem Len_any : Calls Try.prog 92 #[.pointer (some ⟨g, 0, none⟩)] w fun e w' => e = .returned (.int .i64 (s.C.length : Int)) ∧ w = w' := by
  obtain ⟨v1, v2, r, hA, rfl⟩ := hI
  obtain ⟨a2, cap, rfl, hc1, hc2⟩ := own_val hA.cel
  have h3 := hA.blk.cell 3
  have h2 := hA.blk.cell 2
  simp at h3 h2
  have hm1 := hA.most1
  clear hA
  go_enter Try.func92, Try.ntmps92
  go_wp2_with (go_at_call 108; refine (missing_no _ _ _ h2 hm1).mono ?_; rintro e w' ⟨rfl, rfl⟩)
  go_ret
  exact ⟨rfl, rfl⟩
theorem Count_any : Calls Try.prog 99 #[.pointer (some ⟨g, 0, none⟩)] w fun e w' => e = .returned (.int .u64 (s.L.length : Int)) ∧ w = w' := by
  obtain ⟨v1, v2, r, hA, rfl⟩ := hI
  have h2 := hA.blk.cell 2
  have h0 := hA.blk.cell 0
  simp at h2 h0
  have hm1 := hA.most1
  clear hA
  go_enter Try.func99, Try.ntmps99
  go_wp2_with (go_at_call 108; refine (missing_no _ _ _ h2 hm1).mono ?_; rintro e w' ⟨rfl, rfl⟩)
  go_ret
  exact ⟨rfl, rfl⟩
end

/-- What New makes. -/
def Ar.fresh (most : Nat) : Ar := ⟨[], most, []⟩
theorem New_ok (most : Nat) (w : World) (h1 : 1 ≤ most) (h2 : most ≤ 65536) : Calls Try.prog 34 #[.int .i64 (most : Int)] w fun e w' =>
   e = .returned (.tuple #[.pointer (some ⟨w.heap.size, 0, none⟩), .int .i64 0]) ∧ IsAr w' w.heap.size [w.heap.size] (Ar.fresh most) ∧ Touch [] w w' := by
  go_enter Try.func34, Try.ntmps34
  go_wp2
  go_ret2
  exact ⟨rfl, ⟨.slice none 0 0, .slice none 0 0, [], ⟨Blk.new _ _ _, World.ownsRow_nil _ _ _ _, World.ownsRow_nil _ _ _ _, Ring.nil, h1, h2, Nat.zero_le _, by simp [Ar.fresh]⟩, rfl⟩, (Touch.refl [] w).alloc _⟩
theorem New_no (most : Int) (w : World) (h : most < 1 ∨ 65536 < most) : Calls Try.prog 34 #[.int .i64 most] w fun e w' =>
   e = .returned (.tuple #[.pointer none, .int .i64 2]) ∧ w = w' := by
  rcases h with h | h
  · go_enter Try.func34, Try.ntmps34
    go_wp2
    go_ret2
    exact ⟨rfl, rfl⟩
  · have h' : ¬ most < 1 := by omega
    go_enter Try.func34, Try.ntmps34
    go_wp2
    go_ret2
    exact ⟨rfl, rfl⟩
end Go.Proofs.Ytihmbgdkllmkaaa
