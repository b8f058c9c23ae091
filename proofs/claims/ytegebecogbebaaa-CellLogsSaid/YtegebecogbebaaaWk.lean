/-
  One arena that a law has made, and boxes of other types beside it: contracts in the form in which a law's walk uses them.
-/
import Derived.Test.YtegebecogbebaaaTries
namespace Go.Proofs.Ytegebecogbebaaa
open Go.RowKit Go.Shelf
set_option maxRecDepth 100000
set_option linter.unusedVariables false

/-- A type of which no block of an arena is. -/
def Other (t : TypeId) : Prop := t ≠ 66 ∧ t ≠ 54 ∧ t ≠ 39
theorem IsAr.notin {w : World} {g b : Nat} {fp : List Nat} {s : Ar} {t : TypeId} {cs : Array Value} (hI : IsAr w g fp s) (hb : Blk w b t cs) (ht : Other t) : b ∉ fp := by
  obtain ⟨v1, v2, r, hA, rfl⟩ := hI
  simp only [List.mem_cons, List.mem_append, not_or]
  exact ⟨hb.ne hA.blk ht.1, own_ne hA.log hb ht.2.1, own_ne hA.cel hb ht.2.2⟩

/-- Boxes of other types lie as they lay. -/
def Keep (w w' : World) : Prop := ∀ b t cs, Blk w b t cs → Other t → Blk w' b t cs
theorem Keep.refl (w : World) : Keep w w := fun _ _ _ h _ => h
theorem Keep.trans {a b c : World} (h : Keep a b) (h' : Keep b c) : Keep a c := fun g t cs hb ht => h' g t cs (h g t cs hb ht) ht
theorem Keep.of_touch {w w' : World} (h : Touch [] w w') : Keep w w' := fun b t cs hb _ => hb.touch h (by simp)

/-- The arena g of the call's own is s; none of its blocks is in S; nothing that lay below B has turned. -/
def Wk (S : List Nat) (B : Nat) (w0 w : World) (g : Nat) (s : Ar) : Prop := ∃ fp, IsAr w g fp s ∧ (∀ k ∈ fp, B ≤ k ∧ k ∉ S) ∧ Below B w0 w ∧ ∀ k ∈ S, k < w.heap.size

/-- The blocks S lie as they lay. -/
def Same (S : List Nat) (w w' : World) : Prop := ∀ k ∈ S, w'.heap[k]? = w.heap[k]?
theorem Same.refl (S : List Nat) (w : World) : Same S w w := fun _ _ => rfl
theorem Same.trans {S : List Nat} {a b c : World} (h : Same S a b) (h' : Same S b c) : Same S a c := fun k hk => (h' k hk).trans (h k hk)
theorem Same.sub {S S' : List Nat} {a b : World} (h : Same S a b) (hs : ∀ k ∈ S', k ∈ S) : Same S' a b := fun k hk => h k (hs k hk)

section
variable {S : List Nat} {B : Nat} {w0 w w' : World} {g : Nat} {s s' : Ar}
theorem Wk.below (h : Wk S B w0 w g s) : Below B w0 w := let ⟨_, _, _, hb, _⟩ := h; hb
theorem Wk.lt (h : Wk S B w0 w g s) : ∀ k ∈ S, k < w.heap.size := let ⟨_, _, _, _, hl⟩ := h; hl
theorem Wk.sub (h : Wk S B w0 w g s) {S' : List Nat} (hs : ∀ k ∈ S', k ∈ S) : Wk S' B w0 w g s := let ⟨fp, hI, hf, hb, hl⟩ := h; ⟨fp, hI, fun k hk => ⟨(hf k hk).1, fun hc => (hf k hk).2 (hs k hc)⟩, hb, fun k hk => hl k (hs k hk)⟩
theorem Wk.size (h : Wk S B w0 w g s) (hB : B ≤ w0.heap.size) : B ≤ w.heap.size := Nat.le_trans hB h.below.size
/-- A new block, which is kept from then on. -/
theorem Wk.allocS (h : Wk S B w0 w g s) (hB : B ≤ w.heap.size) (o : Obj) : Wk (w.heap.size :: S) B w0 (w.alloc o) g s := by
  obtain ⟨fp, hI, hf, hb, hl⟩ := h
  refine ⟨fp, hI.alloc o, fun k hk => ⟨(hf k hk).1, ?_⟩, hb.alloc hB o, ?_⟩
  · simp only [List.mem_cons, not_or]
    exact ⟨by have := hI.lt k hk; omega, (hf k hk).2⟩
  · intro k hk
    simp only [List.mem_cons] at hk
    rcases hk with rfl | hk
    · simp
    · have := hl k hk; simp; omega
theorem Wk.alloc (h : Wk S B w0 w g s) (hB : B ≤ w.heap.size) (o : Obj) : Wk S B w0 (w.alloc o) g s := (h.allocS hB o).sub (fun k hk => List.mem_cons_of_mem _ hk)
theorem Wk.drewN (h : Wk S B w0 w g s) (n : Nat) : Wk S B w0 (w.drewN n) g s := let ⟨fp, hI, hf, hb, hl⟩ := h; ⟨fp, hI.drewN n, hf, ⟨hb.os, hb.tape, hb.output, hb.size, hb.block⟩, hl⟩
theorem Wk.drew (h : Wk S B w0 w g s) : Wk S B w0 w.drew g s := h.drewN 1
/-- A step that leaves the arena's own blocks alone. -/
theorem Wk.touch (h : Wk S B w0 w g s) (hB : B ≤ w0.heap.size) {T : List Nat} (ht : Touch T w w') (hT : ∀ fp s, IsAr w g fp s → ∀ k ∈ fp, k ∉ T) (hTB : ∀ k ∈ T, B ≤ k) : Wk S B w0 w' g s := by
  have hz := h.size hB
  obtain ⟨fp, hI, hf, hb, hl⟩ := h
  exact ⟨fp, hI.touch ht (hT fp s hI), hf, hb.trans (ht.below_of hz hTB), fun k hk => Nat.lt_of_lt_of_le (hl k hk) ht.size⟩
theorem Wk.setCell (h : Wk S B w0 w g s) {b : Nat} {t : TypeId} {cs : Array Value} (hb : Blk w b t cs) (ht : Other t) (hB : B ≤ b) (i : Nat) (u : Value) : Wk S B w0 (w.setCell ⟨b, i, none⟩ u) g s := by
  obtain ⟨fp, hI, hf, hbl, hl⟩ := h
  have hn := hI.notin hb ht
  exact ⟨fp, hI.keep (fun k hk => Below.heap_setCell w ⟨b, i, none⟩ u k (fun e => hn (by rw [← show k = b from e]; exact hk))), hf, hbl.setCell (p := ⟨b, i, none⟩) hB u, fun k hk => by simpa [World.setCell] using hl k hk⟩
/-- A store into a block that is kept. -/
theorem Wk.setS (h : Wk S B w0 w g s) {b : Nat} (hb : b ∈ S) (hB : B ≤ b) (i : Nat) (u : Value) : Wk S B w0 (w.setCell ⟨b, i, none⟩ u) g s := by
  obtain ⟨fp, hI, hf, hbl, hl⟩ := h
  exact ⟨fp, hI.keep (fun k hk => Below.heap_setCell w ⟨b, i, none⟩ u k (fun e => (hf k hk).2 (by rw [show k = b from e]; exact hb))), hf, hbl.setCell (p := ⟨b, i, none⟩) hB u, fun k hk => by simpa [World.setCell] using hl k hk⟩
/-- A turn of a block that is kept. -/
theorem Wk.putObj (h : Wk S B w0 w g s) {l : Nat} (hl : l ∈ S) (hB : B ≤ l) (o : Obj) : Wk S B w0 (w.putObj l o) g s := by
  obtain ⟨fp, hI, hf, hb, hlt⟩ := h
  exact ⟨fp, hI.keep (fun k hk => World.putObj_heap_other (fun e => (hf k hk).2 (e ▸ hl))), hf, ⟨hb.os, hb.tape, hb.output, by simpa using hb.size, fun k hk => (World.putObj_heap_other (by omega)).trans (hb.block k hk)⟩, fun k hk => by simpa using hlt k hk⟩
end

/-- What is answered and left by a call on the arena. -/
def Gives (S : List Nat) (B : Nat) (w0 w : World) (g : Nat) (s' : Ar) (v : Value) (e : Ending) (w' : World) : Prop := e = .returned v ∧ Wk S B w0 w' g s' ∧ Keep w w' ∧ Same S w w' ∧ w.heap.size ≤ w'.heap.size

theorem gives_of {f : Nat} {args : Array Value} {S : List Nat} {B : Nat} {w0 w : World} {g : Nat} {s s' : Ar} {v : Value} (h : Wk S B w0 w g s) (hB : B ≤ w0.heap.size)
    (hc : ∀ fp, IsAr w g fp s → Calls Try.prog f args w fun e w' => e = .returned v ∧ ArTo w w' g fp s') : Calls Try.prog f args w (Gives S B w0 w g s' v) := by
  obtain ⟨fp, hI, hf, hb, hl⟩ := h
  refine (hc fp hI).mono ?_
  rintro e w' ⟨rfl, fp', hI', hM⟩
  refine ⟨rfl, ⟨fp', hI', fun k hk => (hM.fp k hk).elim (hf k) (fun h => ⟨by have := hb.size; omega, fun hc => by have := hl k hc; omega⟩), hb.trans (hM.touch.below_of (Nat.le_trans hB hb.size) (fun k hk => (hf k hk).1)), fun k hk => Nat.lt_of_lt_of_le (hl k hk) hM.touch.size⟩,
    fun b t cs hbl ht => hbl.touch hM.touch (hI.notin hbl ht), fun k hk => hM.touch.block k (hl k hk) (fun hc => (hf k hc).2 hk), hM.touch.size⟩

section
variable {S : List Nat} {B : Nat} {w0 w : World} {g : Nat} {s : Ar} (hB : B ≤ w0.heap.size)
include hB
theorem Wk.New (most : Nat) (h1 : 1 ≤ most) (h2 : most ≤ 65536) (hb : Below B w0 w) (hS : ∀ k ∈ S, k < w.heap.size) : Calls Try.prog 14 #[.int .i64 (most : Int)] w
    fun e w' => Gives S B w0 w w.heap.size (Ar.fresh most) (.tuple #[.pointer (some ⟨w.heap.size, 0, none⟩), .int .i64 0]) e w' := by
  refine (New_ok most w h1 h2).mono ?_
  rintro e w' ⟨rfl, hI, ht⟩
  have hs := hb.size
  refine ⟨rfl, ⟨_, hI, ?_, hb.trans (ht.below_of (by omega) (by simp)), fun k hk => Nat.lt_of_lt_of_le (hS k hk) ht.size⟩, Keep.of_touch ht, fun k hk => ht.block k (hS k hk) (by simp), ht.size⟩
  intro k hk
  simp only [List.mem_singleton] at hk
  subst hk
  exact ⟨by omega, fun hc => by have := hS _ hc; omega⟩
variable (h : Wk S B w0 w g s)
include h
theorem Wk.Alloc (n : Int) (s' : Ar) (p e : Nat) (he : s.allocA n = (s', p, e)) : Calls Try.prog 21 #[.pointer (some ⟨g, 0, none⟩), .int .i64 n] w (Gives S B w0 w g s' (.tuple #[.int .i64 (p : Int), .int .i64 (e : Int)])) :=
  gives_of h hB fun fp hI => by have := Alloc_any w g fp s n hI; rwa [he] at this
theorem Wk.Lock (s' : Ar) (p e : Nat) (he : s.allocA 1 = (s', p, e)) : Calls Try.prog 15 #[.pointer (some ⟨g, 0, none⟩)] w (Gives S B w0 w g s' (.tuple #[.int .i64 (p : Int), .int .i64 (e : Int)])) :=
  gives_of h hB fun fp hI => by have := SpinNew_any w g fp s hI; rwa [he] at this
variable (hn : s.L.length < 4611686018427387904)
include hn
theorem Wk.Load (at_ : Int) (s' : Ar) (v e : Nat) (h1 : (s.load at_).1 = s') (h2 : (s.load at_).2.1.old = v) (h3 : (s.load at_).2.2 = e) : Calls Try.prog 22 #[.pointer (some ⟨g, 0, none⟩), .int .i64 at_] w (Gives S B w0 w g s' (.tuple #[.int .u64 (v : Int), .int .i64 (e : Int)])) :=
  gives_of h hB fun fp hI => by have := Load_any w g fp s at_ hI hn; rwa [h1, h2, h3] at this
theorem Wk.Store (at_ : Int) (v : Nat) (hv : Wd v) (s' : Ar) (e : Nat) (h1 : (s.store at_ v).1 = s') (h3 : (s.store at_ v).2.2 = e) : Calls Try.prog 23 #[.pointer (some ⟨g, 0, none⟩), .int .i64 at_, .int .u64 (v : Int)] w (Gives S B w0 w g s' (.int .i64 (e : Int))) :=
  gives_of h hB fun fp hI => by have := Store_any w g fp s at_ hI hn v hv; rwa [h1, h3] at this
theorem Wk.Swap (at_ : Int) (old new : Nat) (ho : Wd old) (hw : Wd new) (s' : Ar) (v : Nat) (d : Bool) (e : Nat) (h1 : (s.swap at_ old new).1 = s') (h2 : (s.swap at_ old new).2.1.old = v) (h3 : (s.swap at_ old new).2.1.did = d) (h4 : (s.swap at_ old new).2.2 = e) :
    Calls Try.prog 24 #[.pointer (some ⟨g, 0, none⟩), .int .i64 at_, .int .u64 (old : Int), .int .u64 (new : Int)] w (Gives S B w0 w g s' (.tuple #[.int .u64 (v : Int), .bool d, .int .i64 (e : Int)])) :=
  gives_of h hB fun fp hI => by have := Swap_any w g fp s at_ hI hn old new ho hw; rwa [h1, h2, h3, h4] at this
theorem Wk.Add (at_ : Int) (n : Nat) (hw : Wd n) (s' : Ar) (v e : Nat) (h1 : (s.add at_ n).1 = s') (h2 : (s.add at_ n).2.1.old = v) (h3 : (s.add at_ n).2.2 = e) : Calls Try.prog 25 #[.pointer (some ⟨g, 0, none⟩), .int .i64 at_, .int .u64 (n : Int)] w (Gives S B w0 w g s' (.tuple #[.int .u64 (v : Int), .int .i64 (e : Int)])) :=
  gives_of h hB fun fp hI => by have := Add_any w g fp s at_ hI hn n hw; rwa [h1, h2, h3] at this
theorem Wk.Try (at_ : Int) (s' : Ar) (d : Bool) (e : Nat) (h1 : (s.swap at_ 0 1).1 = s') (h3 : (s.swap at_ 0 1).2.1.did = d) (h4 : (s.swap at_ 0 1).2.2 = e) :
    Calls Try.prog 18 #[.pointer (some ⟨g, 0, none⟩), .int .i64 at_] w (Gives S B w0 w g s' (.tuple #[.bool d, .int .i64 (e : Int)])) :=
  gives_of h hB fun fp hI => by have := Try_any w g fp s hI at_ hn; rwa [h1, h3, h4] at this
theorem Wk.Free (at_ : Int) (s' : Ar) (e : Nat) (h1 : (s.swap at_ 1 0).1 = s') (h4 : s.freeE at_ = e) :
    Calls Try.prog 17 #[.pointer (some ⟨g, 0, none⟩), .int .i64 at_] w (Gives S B w0 w g s' (.int .i64 (e : Int))) :=
  gives_of h hB fun fp hI => by have := Free_any w g fp s hI at_ hn; rwa [h1, h4] at this
theorem Wk.Held (at_ : Int) (s' : Ar) (d : Bool) (e : Nat) (h1 : (s.load at_).1 = s') (h3 : s.heldB at_ = d) (h4 : (s.load at_).2.2 = e) :
    Calls Try.prog 19 #[.pointer (some ⟨g, 0, none⟩), .int .i64 at_] w (Gives S B w0 w g s' (.tuple #[.bool d, .int .i64 (e : Int)])) :=
  gives_of h hB fun fp hI => by have := Held_any w g fp s hI at_ hn; rwa [h1, h3, h4] at this
end

/-- Ahead of a loop over an iterator: its two blocks are kept. -/
theorem Wk.loop {S : List Nat} {B : Nat} {w0 w : World} {g : Nat} {s : Ar} (h : Wk S B w0 w g s) (hB : B ≤ w0.heap.size) (o1 o2 : Obj) : Wk (w.heap.size :: (w.heap.size + 1) :: S) B w0 ((w.alloc o1).alloc o2) g s := by
  have hz := h.size hB
  have := (h.allocS hz o1).allocS (by simp; omega) o2
  rw [World.size_alloc] at this
  exact this.sub (by simp; intro k hk; simp [hk])
theorem Same.kept {S : List Nat} {D : Nat} {w w' : World} (h : Same (D :: (D + 1) :: S) w w') : Kept D w w' := ⟨h D (by simp), h (D + 1) (by simp)⟩
theorem Kept.setCell {D : Nat} {W : World} {b i : Nat} {u : Value} (h1 : b ≠ D) (h2 : b ≠ D + 1) : Kept D W (W.setCell ⟨b, i, none⟩ u) := ⟨Below.heap_setCell W ⟨b, i, none⟩ u D (Ne.symm h1), Below.heap_setCell W ⟨b, i, none⟩ u (D + 1) (Ne.symm h2)⟩

/-- A lock that is held stays so: every try tells no. -/
theorem try_held (c m : Nat) (hc : c ≠ 0) (L : List Acc) (k : Nat) : ∃ L', tryS ⟨[c], m, L⟩ 0 k = ⟨[c], m, L'⟩ ∧ L'.length = L.length + k := by
  induction k with
  | zero => exact ⟨L, rfl, rfl⟩
  | succ k ih =>
    obtain ⟨L', h1, h2⟩ := ih
    refine ⟨L' ++ [⟨3, 0, c, c, false⟩], ?_, by simp [h2]; omega⟩
    simp only [tryS, h1]
    simp [Ar.swap, Ar.doBy, Ar.acc, chgSwap, hc]
theorem try_heldD (c m : Nat) (hc : c ≠ 0) (L : List Acc) (k : Nat) : tryD ⟨[c], m, L⟩ 0 k = false ∧ tryE ⟨[c], m, L⟩ 0 k = 0 := by
  obtain ⟨L', h1, h2⟩ := try_held c m hc L k
  simp only [tryD, tryE, h1]
  simp [Ar.swap, Ar.doBy, Ar.acc, chgSwap, hc]
section
variable {S : List Nat} {B : Nat} {w0 w : World} {g : Nat} {s : Ar} (h : Wk S B w0 w g s)
include h
theorem Wk.Count (n : Nat) (he : s.L.length = n) : Calls Try.prog 26 #[.pointer (some ⟨g, 0, none⟩)] w fun e w' => e = .returned (.int .u64 (n : Int)) ∧ w = w' := by
  obtain ⟨fp, hI, _⟩ := h
  have := Count_any w g fp s hI
  rwa [he] at this
theorem Wk.Len (n : Nat) (he : s.C.length = n) : Calls Try.prog 35 #[.pointer (some ⟨g, 0, none⟩)] w fun e w' => e = .returned (.int .i64 (n : Int)) ∧ w = w' := by
  obtain ⟨fp, hI, _⟩ := h
  have := Len_any w g fp s hI
  rwa [he] at this
theorem Wk.Most : Calls Try.prog 36 #[.pointer (some ⟨g, 0, none⟩)] w fun e w' => e = .returned (.int .i64 (s.most : Int)) ∧ w = w' := by
  obtain ⟨fp, hI, _⟩ := h
  exact Most_any w g fp s hI
end
theorem other_int : Other 3 := by unfold Other; decide
theorem other_bool : Other 4 := by unfold Other; decide
theorem other_arp : Other 24 := by unfold Other; decide
end Go.Proofs.Ytegebecogbebaaa
