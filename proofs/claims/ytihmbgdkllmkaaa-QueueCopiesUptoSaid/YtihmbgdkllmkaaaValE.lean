/-
  Layer 4: equal and Same (val.go).
-/
import Derived.Test.YtihmbgdkllmkaaaValK
namespace Go.Proofs.Ytihmbgdkllmkaaa
open Go.RowKit Go.Shelf
set_option maxRecDepth 100000
set_option linter.unusedVariables false
set_option linter.unusedSimpArgs false

/-- It tells whether p holds; memory is as it was, but for what is new. -/
def Tells (p : Prop) (w : World) (e : Ending) (w' : World) : Prop := ∃ c : Bool, e = .returned (.bool c) ∧ (c = true ↔ p) ∧ Touch [] w w'
theorem Touch.cellOf {w w' : World} (h : Touch [] w w') {b o : Nat} {v : Value} (hc : w.cell? ⟨b, o, none⟩ = some v) : w'.cell? ⟨b, o, none⟩ = some v :=
  (World.cell?_of_block (a := ⟨b, o, none⟩) (h.block b (World.block_lt_of_cell? _ _ hc) (by simp))).trans hc
theorem Tells.no {p : Prop} {w w' : World} (h : ¬ p) (ht : Touch [] w w') : Tells p w (.returned (.bool false)) w' := ⟨false, rfl, by simp [h], ht⟩
theorem Tells.yes {p : Prop} {w w' : World} (h : p) (ht : Touch [] w w') : Tells p w (.returned (.bool true)) w' := ⟨true, rfl, by simp [h], ht⟩
theorem MT.plain_iff {k n k' n' : Int} {a a' : Option Addr} {c c' : Nat} {l l' : List MT} : (MT.mk k n a c l).plain = (MT.mk k' n' a' c' l').plain ↔ k = k' ∧ n = n' ∧ l.map MT.plain = l'.map MT.plain := by
  simp only [MT.plain, MT.plainAll_map, MT.PT.mk.injEq]
theorem map_take_succ {l : List MT} {j : Nat} (hj : j < l.length) : (l.take (j + 1)).map MT.plain = (l.take j).map MT.plain ++ [l[j].plain] := by
  rw [List.take_add_one, List.getElem?_eq_getElem hj, Option.toList_some, List.map_append]
  rfl

set_option maxHeartbeats 4000000 in
theorem equal_val : ∀ (t u : MT) (w : World), t.In w → u.In w → Calls Try.prog 105 #[t.val, u.val] w (Tells (t.plain = u.plain) w) := by
  intro t
  induction t using MT.ind with
  | h k n a c l ih =>
  intro u w hin hin2
  obtain ⟨k2, n2, a2, c2, l2⟩ := u
  have HIN := Lib.hid hin
  have HIN2 := Lib.hid hin2
  have HIH := Lib.hid ih
  have hlen := hin.len
  have hlen2 := hin2.len
  simp only [MT.parts] at hlen hlen2
  clear hin hin2 ih
  simp only [MT.val, MT.kind, MT.num, MT.sl, MT.addr, MT.parts, MT.cap]
  have z0 : w.heap.size < w.heap.size + 1 + 1 := by omega
  have z1 : w.heap.size < w.heap.size + 1 := by omega
  by_cases hk : k = k2
  case neg =>
    have hk' : (k != k2) = true := by simpa using hk
    go_enter Try.func105, Try.ntmps105
    go_wp2
    go_ret
    exact Tells.no (fun h => hk (MT.plain_iff.1 h).1) (((Touch.refl [] w).alloc _).alloc _)
  subst hk
  by_cases hn : n = n2
  case neg =>
    have hn' : (n != n2) = true := by simpa using hn
    go_enter Try.func105, Try.ntmps105
    go_wp2
    go_ret
    exact Tells.no (fun h => hn (MT.plain_iff.1 h).2.1) (((Touch.refl [] w).alloc _).alloc _)
  subst hn
  by_cases hl : l.length = l2.length
  case neg =>
    have hl' : ((l.length : Int) != (l2.length : Int)) = true := by simp; omega
    go_enter Try.func105, Try.ntmps105
    go_wp2
    go_ret
    refine Tells.no (fun h => hl ?_) (((Touch.refl [] w).alloc _).alloc _)
    have := congrArg List.length (MT.plain_iff.1 h).2.2
    simpa using this
  have HLL := Lib.hid hl
  rw [← hl]
  clear hl hlen2
  go_enter Try.func105, Try.ntmps105
  go_wp2_with fail
  refine wp_name ?_
  intro w1 hw1
  have HL1 := Lib.hid ((Led.nil' w).al2 hw1)
  simp only [List.nil_append, List.cons_append] at HL1
  obtain ⟨b2, hb2⟩ : ∃ b, w.heap.size + 1 = b := ⟨_, rfl⟩
  rw [hb2] at HL1 ⊢
  obtain ⟨b1, hb1⟩ : ∃ b, w.heap.size = b := ⟨_, rfl⟩
  rw [hb1] at HL1 ⊢
  clear hb2 hb1 hw1 z0 z1
  go_loopw [30] (fun i wr => ∃ (j : Nat), j ≤ l.length ∧ i = .int .i64 (j : Int) ∧ Hid ((l.take j).map MT.plain = (l2.take j).map MT.plain) ∧
    Hid (Led [] w wr [box b1 25 #[.int .i64 k, .int .i64 n, .slice a l.length c], box b2 25 #[.int .i64 k, .int .i64 n, .slice a2 l.length c2]])) (fun i _ => l.length - (intOf i).toNat)
  case atStart => exact ⟨0, Nat.zero_le _, rfl, rfl, HL1⟩
  case round =>
    obtain ⟨j, hj, rfl, HD, HK⟩ := hrel
    clear HL1
    obtain ⟨x0, x1, x2, _, _, _, zx, _, _⟩ := HK.out.c3 0 rfl
    obtain ⟨y0, y1, y2, _, _, _, zy, _, _⟩ := HK.out.c3 1 rfl
    by_cases hjl : j < l.length
    · have hjl' : (j : Int) < (l.length : Int) := by omega
      have hjl2 : j < l2.length := by have := HLL.out; omega
      have hj0 : (0 : Int) ≤ (j : Int) := by omega
      obtain ⟨b, o, rfl, hb, p0, p1, p2⟩ := (HIN.out.touch0 HK.out.tch).row.cellAt hjl
      obtain ⟨b', o', rfl, hb', q0, q1, q2⟩ := (HIN2.out.touch0 HK.out.tch).row.cellAt hjl2
      have HU := Lib.hid ((HIN.out.touch0 HK.out.tch).part (List.getElem_mem hjl))
      have HV := Lib.hid ((HIN2.out.touch0 HK.out.tch).part (List.getElem_mem hjl2))
      have HI := Lib.hid (HIH.out _ (List.getElem_mem hjl))
      have HTS := Lib.hid (map_take_succ hjl)
      have HTS2 := Lib.hid (map_take_succ hjl2)
      have HGA : Hid (∀ l' : List MT, l.map MT.plain = l'.map MT.plain → ∀ h' : j < l'.length, l[j].plain = l'[j].plain) := fun l' he h' => by
        have := congrArg (fun z => z[j]?) he
        simpa [List.getElem?_map, hjl, h'] using this
      have HGB := Lib.hid (fun he => HGA.out l2 he hjl2)
      simp only [MT.parts] at p0 p1 p2 q0 q1 q2 HU HV HI
      generalize l[j] = u at p0 p1 p2 HU HI HTS HGB
      generalize l2[j] = v at q0 q1 q2 HV HTS2 HGB
      simp only [MT.sl] at p2 q2
      clear HIH HGA
      go_wp2_with fail
      go_region_held3 (fun w' => w'.cell? ⟨b1, 2, none⟩ = some (.slice (some ⟨b, o, none⟩) l.length c) ∧ w'.cell? ⟨b2, 2, none⟩ = some (.slice (some ⟨b', o', none⟩) l.length c2) ∧ w'.cell? ⟨b, o + j * 3, none⟩ = some (.int .i64 u.kind) ∧ w'.cell? ⟨b, o + j * 3 + 1, none⟩ = some (.int .i64 u.num) ∧ w'.cell? ⟨b, o + j * 3 + 2, none⟩ = some (.slice u.addr u.parts.length u.cap) ∧
          w'.cell? ⟨b', o' + j * 3, none⟩ = some (.int .i64 v.kind) ∧ w'.cell? ⟨b', o' + j * 3 + 1, none⟩ = some (.int .i64 v.num) ∧ w'.cell? ⟨b', o' + j * 3 + 2, none⟩ = some (.slice v.addr v.parts.length v.cap)) (go_keep)
        (first
        | (go_at_call 105; refine (HI.out v wr.drew (HU.out.touch0 (Touch.refl [] wr).drew) (HV.out.touch0 (Touch.refl [] wr).drew)).mono ?_; rintro e w3 ⟨cc, rfl, hcc, ht⟩; have HL3 := Lib.hid (HK.out.drew.touch ht); have HCC := Lib.hid hcc; replace x2 := ht.cellOf x2; replace y2 := ht.cellOf y2; replace p0 := ht.cellOf p0; replace p1 := ht.cellOf p1; replace p2 := ht.cellOf p2; replace q0 := ht.cellOf q0; replace q1 := ht.cellOf q1; replace q2 := ht.cellOf q2; clear hcc ht))
      clear x0 x1 x2 y0 y1 y2 p0 p1 p2 q0 q1 q2
      cases cc with
      | false =>
        go_wp2
        go_ret
        refine Tells.no (fun h => ?_) HL3.out.tch
        have := HCC.out.2 (HGB.out (MT.plain_iff.1 h).2.2)
        cases this
      | true =>
        go_wp2
        go_roundw
        case rel => exact ⟨j + 1, by omega, by go_num, by unfold Hid; rw [HTS.out, HTS2.out, HD.out, HCC.out.1 rfl], HL3⟩
        case measure => simp [intOf]; omega
    · have hjl' : ¬ (j : Int) < (l.length : Int) := by omega
      go_wp2
      go_ret
      refine Tells.yes ?_ HK.out.tch
      have h := HD.out
      rw [List.take_of_length_le (by omega), List.take_of_length_le (by have := HLL.out; omega)] at h
      exact MT.plain_iff.2 ⟨rfl, rfl, h⟩
set_option maxHeartbeats 4000000 in
theorem same_ref : ∀ (t u : MT) (w : World), t.In w → u.In w → Calls Try.prog 103 #[t.val, u.val] w (Tells (t.plain = u.plain) w) := by
  intro t
  induction t using MT.ind with
  | h k n a c l ih =>
  intro u w hin hin2
  obtain ⟨k2, n2, a2, c2, l2⟩ := u
  have HIN := Lib.hid hin
  have HIN2 := Lib.hid hin2
  have HIH := Lib.hid ih
  have hlen := hin.len
  have hlen2 := hin2.len
  simp only [MT.parts] at hlen hlen2
  clear hin hin2 ih
  simp only [MT.val, MT.kind, MT.num, MT.sl, MT.addr, MT.parts, MT.cap]
  have z0 : w.heap.size < w.heap.size + 1 + 1 := by omega
  have z1 : w.heap.size < w.heap.size + 1 := by omega
  by_cases hk : k = k2
  case neg =>
    have hk' : (k != k2) = true := by simpa using hk
    go_enter Try.func103, Try.ntmps103
    go_wp2
    go_ret
    exact Tells.no (fun h => hk (MT.plain_iff.1 h).1) (((Touch.refl [] w).alloc _).alloc _)
  subst hk
  by_cases hn : n = n2
  case neg =>
    have hn' : (n != n2) = true := by simpa using hn
    go_enter Try.func103, Try.ntmps103
    go_wp2
    go_ret
    exact Tells.no (fun h => hn (MT.plain_iff.1 h).2.1) (((Touch.refl [] w).alloc _).alloc _)
  subst hn
  by_cases hl : l.length = l2.length
  case neg =>
    have hl' : ((l.length : Int) != (l2.length : Int)) = true := by simp; omega
    go_enter Try.func103, Try.ntmps103
    go_wp2
    go_ret
    refine Tells.no (fun h => hl ?_) (((Touch.refl [] w).alloc _).alloc _)
    have := congrArg List.length (MT.plain_iff.1 h).2.2
    simpa using this
  have HLL := Lib.hid hl
  rw [← hl]
  clear hl hlen2
  go_enter Try.func103, Try.ntmps103
  go_wp2_with fail
  refine wp_name ?_
  intro w1 hw1
  have HL1 := Lib.hid ((Led.nil' w).al2 hw1)
  simp only [List.nil_append, List.cons_append] at HL1
  obtain ⟨b2, hb2⟩ : ∃ b, w.heap.size + 1 = b := ⟨_, rfl⟩
  rw [hb2] at HL1 ⊢
  obtain ⟨b1, hb1⟩ : ∃ b, w.heap.size = b := ⟨_, rfl⟩
  rw [hb1] at HL1 ⊢
  clear hb2 hb1 hw1 z0 z1
  go_loopw [5] (fun i wr => ∃ (j : Nat), j ≤ l.length ∧ i = .int .i64 (j : Int) ∧ Hid ((l.take j).map MT.plain = (l2.take j).map MT.plain) ∧
    Hid (Led [] w wr [box b1 25 #[.int .i64 k, .int .i64 n, .slice a l.length c], box b2 25 #[.int .i64 k, .int .i64 n, .slice a2 l.length c2]])) (fun i _ => l.length - (intOf i).toNat)
  case atStart => exact ⟨0, Nat.zero_le _, rfl, rfl, HL1⟩
  case round =>
    obtain ⟨j, hj, rfl, HD, HK⟩ := hrel
    clear HL1
    obtain ⟨x0, x1, x2, _, _, _, zx, _, _⟩ := HK.out.c3 0 rfl
    obtain ⟨y0, y1, y2, _, _, _, zy, _, _⟩ := HK.out.c3 1 rfl
    by_cases hjl : j < l.length
    · have hjl' : (j : Int) < (l.length : Int) := by omega
      have hjl2 : j < l2.length := by have := HLL.out; omega
      have hj0 : (0 : Int) ≤ (j : Int) := by omega
      obtain ⟨b, o, rfl, hb, p0, p1, p2⟩ := (HIN.out.touch0 HK.out.tch).row.cellAt hjl
      obtain ⟨b', o', rfl, hb', q0, q1, q2⟩ := (HIN2.out.touch0 HK.out.tch).row.cellAt hjl2
      have HU := Lib.hid ((HIN.out.touch0 HK.out.tch).part (List.getElem_mem hjl))
      have HV := Lib.hid ((HIN2.out.touch0 HK.out.tch).part (List.getElem_mem hjl2))
      have HI := Lib.hid (HIH.out _ (List.getElem_mem hjl))
      have HTS := Lib.hid (map_take_succ hjl)
      have HTS2 := Lib.hid (map_take_succ hjl2)
      have HGA : Hid (∀ l' : List MT, l.map MT.plain = l'.map MT.plain → ∀ h' : j < l'.length, l[j].plain = l'[j].plain) := fun l' he h' => by
        have := congrArg (fun z => z[j]?) he
        simpa [List.getElem?_map, hjl, h'] using this
      have HGB := Lib.hid (fun he => HGA.out l2 he hjl2)
      simp only [MT.parts] at p0 p1 p2 q0 q1 q2 HU HV HI
      generalize l[j] = u at p0 p1 p2 HU HI HTS HGB
      generalize l2[j] = v at q0 q1 q2 HV HTS2 HGB
      simp only [MT.sl] at p2 q2
      clear HIH HGA
      go_wp2_with fail
      go_region_held3 (fun w' => w'.cell? ⟨b1, 2, none⟩ = some (.slice (some ⟨b, o, none⟩) l.length c) ∧ w'.cell? ⟨b2, 2, none⟩ = some (.slice (some ⟨b', o', none⟩) l.length c2) ∧ w'.cell? ⟨b, o + j * 3, none⟩ = some (.int .i64 u.kind) ∧ w'.cell? ⟨b, o + j * 3 + 1, none⟩ = some (.int .i64 u.num) ∧ w'.cell? ⟨b, o + j * 3 + 2, none⟩ = some (.slice u.addr u.parts.length u.cap) ∧
          w'.cell? ⟨b', o' + j * 3, none⟩ = some (.int .i64 v.kind) ∧ w'.cell? ⟨b', o' + j * 3 + 1, none⟩ = some (.int .i64 v.num) ∧ w'.cell? ⟨b', o' + j * 3 + 2, none⟩ = some (.slice v.addr v.parts.length v.cap)) (go_keep)
        (first
        | (go_at_call 103; refine (HI.out v wr.drew (HU.out.touch0 (Touch.refl [] wr).drew) (HV.out.touch0 (Touch.refl [] wr).drew)).mono ?_; rintro e w3 ⟨cc, rfl, hcc, ht⟩; have HL3 := Lib.hid (HK.out.drew.touch ht); have HCC := Lib.hid hcc; replace x2 := ht.cellOf x2; replace y2 := ht.cellOf y2; replace p0 := ht.cellOf p0; replace p1 := ht.cellOf p1; replace p2 := ht.cellOf p2; replace q0 := ht.cellOf q0; replace q1 := ht.cellOf q1; replace q2 := ht.cellOf q2; clear hcc ht))
      clear x0 x1 x2 y0 y1 y2 p0 p1 p2 q0 q1 q2
      cases cc with
      | false =>
        go_wp2
        go_ret
        refine Tells.no (fun h => ?_) HL3.out.tch
        have := HCC.out.2 (HGB.out (MT.plain_iff.1 h).2.2)
        cases this
      | true =>
        go_wp2
        go_roundw
        case rel => exact ⟨j + 1, by omega, by go_num, by unfold Hid; rw [HTS.out, HTS2.out, HD.out, HCC.out.1 rfl], HL3⟩
        case measure => simp [intOf]; omega
    · have hjl' : ¬ (j : Int) < (l.length : Int) := by omega
      go_wp2
      go_ret
      refine Tells.yes ?_ HK.out.tch
      have h := HD.out
      rw [List.take_of_length_le (by omega), List.take_of_length_le (by have := HLL.out; omega)] at h
      exact MT.plain_iff.2 ⟨rfl, rfl, h⟩
end Go.Proofs.Ytihmbgdkllmkaaa
