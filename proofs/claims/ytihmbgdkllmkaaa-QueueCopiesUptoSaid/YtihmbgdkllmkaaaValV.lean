/-
  Layer 4: shapes, valid, Check, Same (val.go); shapes, same of the reference (betrothalref04/ref.go).
-/
import Derived.Test.YtihmbgdkllmkaaaValS
namespace Go.Proofs.Ytihmbgdkllmkaaa
open Go.RowKit Go.Shelf
set_option maxRecDepth 100000
set_option linter.unusedVariables false
set_option linter.unusedSimpArgs false

namespace MT.PT
def kind : MT.PT → Int | .mk k _ _ => k
mutual
def nodes : MT.PT → Nat
  | .mk _ _ l => nodesAll l + 1
def nodesAll : List MT.PT → Nat
  | [] => 0
  | t :: r => nodes t + nodesAll r
end
mutual
/-- Every part has one of the shapes. -/
def Shapes : MT.PT → Prop
  | .mk k n l => Shape k n (l.map kind) ∧ ShapesAll l
def ShapesAll : List MT.PT → Prop
  | [] => True
  | t :: r => Shapes t ∧ ShapesAll r
end
theorem shapesAll_iff {l : List MT.PT} : ShapesAll l ↔ ∀ t ∈ l, t.Shapes := by
  induction l with
  | nil => simp [ShapesAll]
  | cons t r ih => simp [ShapesAll, ih]
/-- It may be. -/
def Ok (p : MT.PT) : Prop := p.nodes ≤ 256 ∧ p.Shapes
end MT.PT
theorem MT.plain_nodes (t : MT) : t.plain.nodes = t.nodes := by
  induction t using MT.ind with
  | h k n a c l ih =>
    simp only [MT.plain, MT.PT.nodes, MT.nodes]
    congr 1
    induction l with
    | nil => rfl
    | cons x r ihr =>
      simp only [MT.plainAll, MT.PT.nodesAll, MT.nodesAll]
      rw [ih x (by simp), ihr (fun t ht => ih t (by simp [ht]))]
theorem MT.plain_kind (t : MT) : t.plain.kind = t.kind := by cases t; rfl
theorem MT.shapes_iff {k n : Int} {a : Option Addr} {c : Nat} {l : List MT} : (MT.mk k n a c l).plain.Shapes ↔ Shape k n (l.map MT.kind) ∧ ∀ t ∈ l, t.plain.Shapes := by
  simp only [MT.plain, MT.PT.Shapes, MT.plainAll_map, MT.PT.shapesAll_iff, List.map_map]
  have e : MT.PT.kind ∘ MT.plain = MT.kind := funext fun t => MT.plain_kind t
  rw [e]
  simp

set_option maxHeartbeats 4000000 in
theorem shapes_val : ∀ (t : MT) (w : World), t.In w → Calls Try.prog 121 #[t.val] w (Tells t.plain.Shapes w) := by
  intro t
  induction t using MT.ind with
  | h k n a c l ih =>
  intro w hin
  have HIN := Lib.hid hin
  have HIH := Lib.hid ih
  have HS := Lib.hid (fun W (hW : Touch [] w W) => shaped_any (.mk k n a c l) W (hin.touch0 hW))
  have hlen := hin.len
  simp only [MT.parts] at hlen
  clear hin ih
  simp only [MT.val, MT.kind, MT.num, MT.sl, MT.addr, MT.parts, MT.cap] at HS ⊢
  have z1 : w.heap.size < w.heap.size + 1 := by omega
  go_enter Try.func121, Try.ntmps121
  go_wp2_with fail
  refine wp_calls_name ?_
  intro w1 hw1
  have HL1 := Lib.hid ((Led.nil' w).al1 hw1)
  simp only [List.nil_append, List.cons_append] at HL1
  refine (HS.out _ HL1.out.tch).mono ?_
  rintro e w2 ⟨cc, rfl, hcc, ht⟩
  have HL2 := Lib.hid (HL1.out.touch ht)
  have HCC := Lib.hid hcc
  obtain ⟨b1, hb1⟩ : ∃ b, w.heap.size = b := ⟨_, rfl⟩
  rw [hb1] at HL2 ⊢
  clear hb1 hw1 HL1 hcc ht z1 HS
  obtain ⟨x0, x1, x2, _, _, _, zx, _, _⟩ := HL2.out.c3 0 rfl
  cases cc with
  | false =>
    go_wp2
    go_ret
    refine Tells.no (fun hs => ?_) HL2.out.tch
    have := HCC.out.2 (MT.shapes_iff.1 hs).1
    cases this
  | true =>
    go_wp2_with fail
    go_loopw [11] (fun i wr => ∃ (j : Nat), j ≤ l.length ∧ i = .int .i64 (j : Int) ∧ Hid (∀ t ∈ l.take j, t.plain.Shapes) ∧ Hid (Led [] w wr [box b1 25 #[.int .i64 k, .int .i64 n, .slice a l.length c]])) (fun i _ => l.length - (intOf i).toNat)
    case atStart => exact ⟨0, Nat.zero_le _, rfl, by unfold Hid; simp, HL2⟩
    case round =>
      obtain ⟨j, hj, rfl, HD, HK⟩ := hrel
      clear HL2 x0 x1 x2 zx
      obtain ⟨x0, x1, x2, _, _, _, zx, _, _⟩ := HK.out.c3 0 rfl
      by_cases hjl : j < l.length
      · have hjl' : (j : Int) < (l.length : Int) := by omega
        have hj0 : (0 : Int) ≤ (j : Int) := by omega
        obtain ⟨b, o, rfl, hb, p0, p1, p2⟩ := (HIN.out.touch0 HK.out.tch).row.cellAt hjl
        have HU := Lib.hid ((HIN.out.touch0 HK.out.tch).part (List.getElem_mem hjl))
        have HI := Lib.hid (HIH.out _ (List.getElem_mem hjl))
        have HMM : Hid (l[j] ∈ l) := List.getElem_mem hjl
        have HTS : Hid (l.take (j + 1) = l.take j ++ [l[j]]) := by
          unfold Hid
          rw [List.take_add_one, List.getElem?_eq_getElem hjl, Option.toList_some]
        simp only [MT.parts] at p0 p1 p2 HU HI
        generalize l[j] = u at p0 p1 p2 HU HI HTS HMM
        simp only [MT.sl] at p2
        clear HIH
        go_wp2_with fail
        refine wp_calls_name ?_
        intro w3 hw3
        have HT3 : Hid (Touch [] wr w3) := hw3 ▸ (Touch.refl [] wr).alloc _
        refine (HI.out w3 (HU.out.touch0 HT3.out)).mono ?_
        rintro e w4 ⟨cc, rfl, hcc, ht⟩
        have HL4 := Lib.hid (HK.out.touch (HT3.out.trans' ht))
        have HC4 := Lib.hid hcc
        clear hcc ht hw3 x0 x1 x2 p0 p1 p2
        cases cc with
        | false =>
          go_wp2
          go_ret
          refine Tells.no (fun hs => ?_) HL4.out.tch
          have := HC4.out.2 ((MT.shapes_iff.1 hs).2 u HMM.out)
          cases this
        | true =>
          go_wp2
          go_roundw
          case rel =>
            refine ⟨j + 1, by omega, by go_num, ?_, HL4⟩
            unfold Hid
            rw [HTS.out]
            intro y hy
            rcases List.mem_append.1 hy with hy | hy
            · exact HD.out y hy
            · simp at hy; rw [hy]; exact HC4.out.1 (by simp)
          case measure => simp [intOf]; omega
      · have hjl' : ¬ (j : Int) < (l.length : Int) := by omega
        go_wp2
        go_ret
        refine Tells.yes (MT.shapes_iff.2 ⟨HCC.out.1 (by simp), ?_⟩) HK.out.tch
        have h := HD.out
        rw [List.take_of_length_le (by omega)] at h
        exact h
set_option maxHeartbeats 4000000 in
theorem shapes_ref : ∀ (t : MT) (w : World), t.In w → Calls Try.prog 102 #[t.val] w (Tells t.plain.Shapes w) := by
  intro t
  induction t using MT.ind with
  | h k n a c l ih =>
  intro w hin
  have HIN := Lib.hid hin
  have HIH := Lib.hid ih
  have HS := Lib.hid (fun W (hW : Touch [] w W) => shape_any (.mk k n a c l) W (hin.touch0 hW))
  have hlen := hin.len
  simp only [MT.parts] at hlen
  clear hin ih
  simp only [MT.val, MT.kind, MT.num, MT.sl, MT.addr, MT.parts, MT.cap] at HS ⊢
  have z1 : w.heap.size < w.heap.size + 1 := by omega
  go_enter Try.func102, Try.ntmps102
  go_wp2_with fail
  refine wp_calls_name ?_
  intro w1 hw1
  have HL1 := Lib.hid ((Led.nil' w).al1 hw1)
  simp only [List.nil_append, List.cons_append] at HL1
  refine (HS.out _ HL1.out.tch).mono ?_
  rintro e w2 ⟨cc, rfl, hcc, ht⟩
  have HL2 := Lib.hid (HL1.out.touch ht)
  have HCC := Lib.hid hcc
  obtain ⟨b1, hb1⟩ : ∃ b, w.heap.size = b := ⟨_, rfl⟩
  rw [hb1] at HL2 ⊢
  clear hb1 hw1 HL1 hcc ht z1 HS
  obtain ⟨x0, x1, x2, _, _, _, zx, _, _⟩ := HL2.out.c3 0 rfl
  cases cc with
  | false =>
    go_wp2
    go_ret
    refine Tells.no (fun hs => ?_) HL2.out.tch
    have := HCC.out.2 (MT.shapes_iff.1 hs).1
    cases this
  | true =>
    go_wp2_with fail
    go_loopw [3] (fun i wr => ∃ (j : Nat), j ≤ l.length ∧ i = .int .i64 (j : Int) ∧ Hid (∀ t ∈ l.take j, t.plain.Shapes) ∧ Hid (Led [] w wr [box b1 25 #[.int .i64 k, .int .i64 n, .slice a l.length c]])) (fun i _ => l.length - (intOf i).toNat)
    case atStart => exact ⟨0, Nat.zero_le _, rfl, by unfold Hid; simp, HL2⟩
    case round =>
      obtain ⟨j, hj, rfl, HD, HK⟩ := hrel
      clear HL2 x0 x1 x2 zx
      obtain ⟨x0, x1, x2, _, _, _, zx, _, _⟩ := HK.out.c3 0 rfl
      by_cases hjl : j < l.length
      · have hjl' : (j : Int) < (l.length : Int) := by omega
        have hj0 : (0 : Int) ≤ (j : Int) := by omega
        obtain ⟨b, o, rfl, hb, p0, p1, p2⟩ := (HIN.out.touch0 HK.out.tch).row.cellAt hjl
        have HU := Lib.hid ((HIN.out.touch0 HK.out.tch).part (List.getElem_mem hjl))
        have HI := Lib.hid (HIH.out _ (List.getElem_mem hjl))
        have HMM : Hid (l[j] ∈ l) := List.getElem_mem hjl
        have HTS : Hid (l.take (j + 1) = l.take j ++ [l[j]]) := by
          unfold Hid
          rw [List.take_add_one, List.getElem?_eq_getElem hjl, Option.toList_some]
        simp only [MT.parts] at p0 p1 p2 HU HI
        generalize l[j] = u at p0 p1 p2 HU HI HTS HMM
        simp only [MT.sl] at p2
        clear HIH
        go_wp2_with fail
        refine wp_calls_name ?_
        intro w3 hw3
        have HT3 : Hid (Touch [] wr w3) := hw3 ▸ Touch.refl [] wr
        refine (HI.out w3 (HU.out.touch0 HT3.out)).mono ?_
        rintro e w4 ⟨cc, rfl, hcc, ht⟩
        have HL4 := Lib.hid (HK.out.touch (HT3.out.trans' ht))
        have HC4 := Lib.hid hcc
        clear hcc ht hw3 x0 x1 x2 p0 p1 p2
        cases cc with
        | false =>
          go_wp2
          go_ret
          refine Tells.no (fun hs => ?_) HL4.out.tch
          have := HC4.out.2 ((MT.shapes_iff.1 hs).2 u HMM.out)
          cases this
        | true =>
          go_wp2
          go_roundw
          case rel =>
            refine ⟨j + 1, by omega, by go_num, ?_, HL4⟩
            unfold Hid
            rw [HTS.out]
            intro y hy
            rcases List.mem_append.1 hy with hy | hy
            · exact HD.out y hy
            · simp at hy; rw [hy]; exact HC4.out.1 (by simp)
          case measure => simp [intOf]; omega
      · have hjl' : ¬ (j : Int) < (l.length : Int) := by omega
        go_wp2
        go_ret
        refine Tells.yes (MT.shapes_iff.2 ⟨HCC.out.1 (by simp), ?_⟩) HK.out.tch
        have h := HD.out
        rw [List.take_of_length_le (by omega)] at h
        exact h
end Go.Proofs.Ytihmbgdkllmkaaa
