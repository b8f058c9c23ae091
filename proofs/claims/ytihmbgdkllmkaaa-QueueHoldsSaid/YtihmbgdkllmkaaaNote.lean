/-
  Layer 1, the record: what 'note' does (cell.go), for every record whose count is below 2^62.
-/
import Derived.Test.YtihmbgdkllmkaaaProg
import Derived.Test.YtihmbgdkllmkaaaAr
import Derived.WalkKit
import Derived.WalkLawsBesides
import Derived.WalkSpells
import Derived.RegionTactic
import Derived.BigRegion
import Derived.Deep.RegionLaw
import Derived.Lib.Hide
namespace Go.Proofs.Ytihmbgdkllmkaaa
open Go.RowKit
set_option maxRecDepth 100000
set_option linter.unusedVariables false

theorem acc_one (x : Acc) : ∀ u ∈ x.cells, u.oneCell' = true := by
  intro u hu
  simp only [Acc.cells, List.mem_cons, List.not_mem_nil, or_false] at hu
  rcases hu with rfl | rfl | rfl | rfl | rfl <;> rfl
theorem info_access : (Try.prog.info? 175).map (fun i => (i.zero, i.size, i.bytes)) = some (some (.agg #[.int .i64 0, .int .i64 0, .int .u64 0, .int .u64 0, .bool false]), 5, 40) := by kernel_rfl

/-- An access, as a value. -/
abbrev Acc.val (x : Acc) : Value := .agg #[.int .i64 (x.op : Int), .int .i64 (x.at_ : Int), .int .u64 (x.old : Int), .int .u64 (x.new : Int), .bool x.did]
/-- The block of an access's box. -/
abbrev Acc.box (x : Acc) : Obj := .cells #[.int .i64 (x.op : Int), .int .i64 (x.at_ : Int), .int .u64 (x.old : Int), .int .u64 (x.new : Int), .bool x.did] 175

/-- What 'note' leaves. -/
def Noted (w w' : World) (g : Nat) (L : List Acc) (m v1 v2 : Value) (x : Acc) : Prop :=
  ∃ v1' r', Blk w' g 131 #[.int .u64 ((L.length + 1 : Nat) : Int), v1', m, v2] ∧ w'.ownsRow 0 175 5 v1' r'.length (accCells r') ∧ Ring (L ++ [x]) r' ∧
    Touch (g :: sb v1) w w' ∧ (∀ k ∈ sb v1', k ∈ sb v1 ∨ w.heap.size ≤ k)

theorem noted_push {w wa w1 : World} {g g' cap : Nat} {L r : List Acc} {m v1 v2 : Value} {x : Acc} (hb : Blk w g 131 #[.int .u64 (L.length : Int), v1, m, v2])
    (ho : w.ownsRow 0 175 5 v1 r.length (accCells r)) (hR : Ring L r) (hr : r.length < 1024) (hta : Touch [] w wa) (hgrow : wa.grownBy w1 v1.ownBlock)
    (hown : w1.ownsRow 0 175 5 (.slice (some ⟨g', 0, none⟩) (r.length + 1) cap) (r.length + 1) (accCells r ++ x.cells)) (hat : v1.ownBlock = some g' ∨ g' = wa.heap.size) :
    Noted w ((w1.setCell ⟨g, 1, none⟩ (.slice (some ⟨g', 0, none⟩) (r.length + 1) cap)).setCell ⟨g, 0, none⟩ (.int .u64 ((L.length : Int) + 1))) g L m v1 v2 x := by
  have hgn : some g ≠ v1.ownBlock := fun h => own_ne ho hb (by decide) (by simp [sb, ← h])
  have B1 := (hb.touch hta (by simp)).grown hgrow hgn
  have hgo := own_ne hown B1 (by decide)
  refine ⟨.slice (some ⟨g', 0, none⟩) (r.length + 1) cap, r ++ [x], ?_, ?_, hR.push hr x, ?_, ?_⟩
  · have := (B1.set 1 (.slice (some ⟨g', 0, none⟩) (r.length + 1) cap)).set 0 (.int .u64 ((L.length : Int) + 1))
    simpa using this
  · have := own_setCell (own_setCell hown ⟨g, 1, none⟩ (.slice (some ⟨g', 0, none⟩) (r.length + 1) cap) hgo) ⟨g, 0, none⟩ (.int .u64 ((L.length : Int) + 1)) hgo
    rw [accCells_append]
    simpa [accCells] using this
  · refine (((hta.mono (S' := g :: sb v1) (by simp)).grown hgrow ?_).setCell ⟨g, 1, none⟩ _ (by simp)).setCell ⟨g, 0, none⟩ _ (by simp)
    intro k hk
    exact .inl (by simp [sb, hk])
  · intro k hk
    have hk' : k = g' := by simpa [sb, Value.ownBlock] using hk
    subst hk'
    rcases hat with h | h
    · exact .inl (by simp [sb, h])
    · exact .inr (by rw [h]; exact hta.size)

set_option maxHeartbeats 1000000 in
theorem note_push (w : World) (g : Nat) (L r : List Acc) (m v1 v2 : Value) (x : Acc) (hb : Blk w g 131 #[.int .u64 (L.length : Int), v1, m, v2])
    (ho : w.ownsRow 0 175 5 v1 r.length (accCells r)) (hR : Ring L r) (hr : r.length < 1024) (hn : L.length < 4611686018427387904) :
    Calls Try.prog 119 #[.pointer (some ⟨g, 0, none⟩), x.val] w fun e w' => e = .returned (.tuple #[]) ∧ Noted w w' g L m v1 v2 x := by
  obtain ⟨i0, hi, hz0, hz1, hz2⟩ := info_parts info_access
  obtain ⟨a1, c1, rfl, hc1, hc2⟩ := own_val ho
  have h0 := hb.cell 0
  have h1 := hb.cell 1
  have f0 := hb.frozen 0
  have f1 := hb.frozen 1
  simp at h0 h1
  have hgl := hb.lt
  have HB := Lib.hid hb
  have HO1 := Lib.hid ho
  have HR := Lib.hid hR
  have HT := Lib.hid ((((Touch.refl [] w).alloc x.box).alloc x.box).drew)
  have HO := Lib.hid (own_drew ((ho.alloc x.box).alloc x.box))
  have hb2 := Lib.hid (Blk.drew ((hb.alloc x.box).alloc x.box))
  have HG : Hid (some g ≠ (Value.slice a1 r.length c1).ownBlock) := fun h => own_ne ho hb (by decide) (by simp [sb, ← h])
  have HN := Lib.hid (World.news_of_block (w := ((w.alloc x.box).alloc x.box).drew) (B := w.heap.size + 1) (cs := #[.int .i64 (x.op : Int), .int .i64 (x.at_ : Int), .int .u64 (x.old : Int), .int .u64 (x.new : Int), .bool x.did]) (t := 175) (fr := (0, 0)) (by have := heap_alloc_new (w.alloc x.box) x.box; rw [World.size_alloc] at this; exact this))
  clear hb ho hR hc1 hc2
  go_enter Try.func119, Try.ntmps119
  go_wp2
  go_region_law (refine step_append_lies _ rfl (.tmp 14) (.tmp 16) 99 rfl 0 175 i0 _ 5 40 Try.underlying99 hi hz0 hz1 hz2 rfl (by decide) (.slice a1 r.length c1) r.length (accCells r) (by simp [Act.eval]) HO.out ⟨w.heap.size + 1, 0, none⟩ 1 1 x.cells (by simp [Act.eval]) rfl HN.out (acc_one x) (by omega) (by simp only [maxLen]; omega) (by omega) (Nat.zero_le _) _ rfl ?_; intro g' cap w1 hown hgrow hat hlt; have B1 := hb2.out.grown hgrow HG.out; have k1 := B1.cell 1; have e1 := B1.frozen 1; have k0 := B1.cell 0; have e0 := B1.frozen 0; simp at k0 k1; have H1 := Lib.hid hown; have H2 := Lib.hid hgrow; have H3 := Lib.hid hat; clear B1 hown hgrow hat)
  all_goals go_wp2
  all_goals go_end0
  all_goals exact ⟨rfl, noted_push HB.out HO1.out HR.out hr HT.out H2.out H1.out H3.out⟩

theorem noted_turn {w : World} {g g1 cap : Nat} {L r : List Acc} {m v2 : Value} {x : Acc} (hb : Blk w g 131 #[.int .u64 (L.length : Int), .slice (some ⟨g1, 0, none⟩) 1024 cap, m, v2])
    (ho : w.ownsRow 0 175 5 (.slice (some ⟨g1, 0, none⟩) 1024 cap) 1024 (accCells r)) (hR : Ring L r) (hr : r.length = 1024) (q : Nat) (hq : q = L.length % 1024) (o : Obj) :
    Noted w (((((((w.setCell ⟨g1, q * 5, none⟩ (.int .i64 (x.op : Int))).setCell ⟨g1, q * 5 + 1, none⟩ (.int .i64 (x.at_ : Int))).setCell ⟨g1, q * 5 + 2, none⟩ (.int .u64 (x.old : Int))).setCell ⟨g1, q * 5 + 3, none⟩ (.int .u64 (x.new : Int))).setCell
      ⟨g1, q * 5 + 4, none⟩ (.bool x.did)).setCell ⟨g, 0, none⟩ (.int .u64 ((L.length : Int) + 1))).alloc o).drew g L m (.slice (some ⟨g1, 0, none⟩) 1024 cap) v2 x := by
  have hgo := own_ne ho hb (by decide)
  have hne : g ≠ g1 := fun h => hgo (by simp [sb, Value.ownBlock, h])
  refine ⟨.slice (some ⟨g1, 0, none⟩) 1024 cap, r.set (L.length % 1024) x, ?_, ?_, hR.turn (by omega) x, ?_, fun k hk => .inl hk⟩
  · have := ((((((hb.far (p := ⟨g1, q * 5, none⟩) hne (.int .i64 (x.op : Int))).far (p := ⟨g1, q * 5 + 1, none⟩) hne (.int .i64 (x.at_ : Int))).far (p := ⟨g1, q * 5 + 2, none⟩) hne (.int .u64 (x.old : Int))).far (p := ⟨g1, q * 5 + 3, none⟩) hne (.int .u64 (x.new : Int))).far (p := ⟨g1, q * 5 + 4, none⟩) hne (.bool x.did)).set 0 (.int .u64 ((L.length : Int) + 1))).alloc o
    simp only [List.setIfInBounds_toArray, List.set_cons_zero] at this
    rw [Int.natCast_add, Int.natCast_one]
    exact this.drew
  · have := (own_setCell (own_set (own_set (own_set (own_set (own_set ho (q * 5) (.int .i64 (x.op : Int))) (q * 5 + 1) (.int .i64 (x.at_ : Int))) (q * 5 + 2) (.int .u64 (x.old : Int))) (q * 5 + 3) (.int .u64 (x.new : Int))) (q * 5 + 4) (.bool x.did)) ⟨g, 0, none⟩ (.int .u64 ((L.length : Int) + 1)) hgo).alloc o
    rw [accCells_set _ _ (by have := Nat.mod_lt L.length (show 0 < 1024 by omega); omega), List.length_set, hr, ← hq]
    exact own_drew this
  · have hg1 : g1 ∈ g :: sb (.slice (some ⟨g1, 0, none⟩) 1024 cap) := by simp [sb, Value.ownBlock]
    exact ((((((((Touch.refl _ w).setCell _ _ (.inl hg1)).setCell _ _ (.inl hg1)).setCell _ _ (.inl hg1)).setCell _ _ (.inl hg1)).setCell _ _ (.inl hg1)).setCell ⟨g, 0, none⟩ _ (by simp)).alloc o).drew

set_option maxHeartbeats 1000000 in
theorem note_turn (w : World) (g : Nat) (L r : List Acc) (m v1 v2 : Value) (x : Acc) (hb : Blk w g 131 #[.int .u64 (L.length : Int), v1, m, v2])
    (ho : w.ownsRow 0 175 5 v1 r.length (accCells r)) (hR : Ring L r) (hr : r.length = 1024) (hn : L.length < 4611686018427387904) :
    Calls Try.prog 119 #[.pointer (some ⟨g, 0, none⟩), x.val] w fun e w' => e = .returned (.tuple #[]) ∧ Noted w w' g L m v1 v2 x := by
  obtain ⟨g1, cap, cur, rfl, hcur, hc1, hc2, hc3, hc4⟩ := own_form ho (by omega)
  rw [hr] at hb ho ⊢
  have h0 := hb.cell 0
  have h1 := hb.cell 1
  have f0 := hb.frozen 0
  have f1 := hb.frozen 1
  simp at h0 h1
  have hgl := hb.lt
  have hg1 := hcur.lt
  obtain ⟨q, hq0, hq, hq1⟩ : ∃ q : Nat, Hid (q = L.length % 1024) ∧ (L.length : Int).tmod 1024 = (q : Int) ∧ q < 1024 := ⟨L.length % 1024, rfl, by rw [Int.tmod_eq_emod_of_nonneg (by omega)]; omega, Nat.mod_lt _ (by omega)⟩
  have hq2 : (q : Int) < 1024 := by omega
  have hlen : (accCells r).length = 5120 := by rw [accCells_length, hr]
  have c0 := own_cell ho (q * 5) (by omega)
  have c1 := own_cell ho (q * 5 + 1) (by omega)
  have c2 := own_cell ho (q * 5 + 2) (by omega)
  have c3 := own_cell ho (q * 5 + 3) (by omega)
  have c4 := own_cell ho (q * 5 + 4) (by omega)
  have d0 := own_frozen ho (q * 5)
  have d1 := own_frozen ho (q * 5 + 1)
  have d2 := own_frozen ho (q * 5 + 2)
  have d3 := own_frozen ho (q * 5 + 3)
  have d4 := own_frozen ho (q * 5 + 4)
  have hne : g ≠ g1 := hb.ne hcur (by decide)
  have HF := Lib.hid (fun o => noted_turn (x := x) hb ho hR hr q hq0.out o)
  clear hc4 hc3 ho hb hcur hr hR hc1 hc2
  go_enter Try.func119, Try.ntmps119
  go_wp2
  go_region
  all_goals go_wp2
  all_goals go_end0
  all_goals exact ⟨rfl, HF.out _⟩

/-- 'note': the access is the last one then. -/
theorem note_any (w : World) (g : Nat) (L r : List Acc) (m v1 v2 : Value) (x : Acc) (hb : Blk w g 131 #[.int .u64 (L.length : Int), v1, m, v2])
    (ho : w.ownsRow 0 175 5 v1 r.length (accCells r)) (hR : Ring L r) (hn : L.length < 4611686018427387904) :
    Calls Try.prog 119 #[.pointer (some ⟨g, 0, none⟩), x.val] w fun e w' => e = .returned (.tuple #[]) ∧ Noted w w' g L m v1 v2 x := by
  by_cases hr : r.length < 1024
  · exact note_push w g L r m v1 v2 x hb ho hR hr hn
  · exact note_turn w g L r m v1 v2 x hb ho hR (by have := hR.1; omega) hn
end Go.Proofs.Ytihmbgdkllmkaaa
