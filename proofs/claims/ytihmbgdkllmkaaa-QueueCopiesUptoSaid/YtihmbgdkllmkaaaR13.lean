/-
  The reference of layer 13 (betrothalref13/ref.go): At, Find, Next: calls that only read.
-/
import Derived.Test.YtihmbgdkllmkaaaQ4
import Derived.Test.YtihmbgdkllmkaaaStill
import Derived.Deep.Cut
namespace Go.Proofs.Ytihmbgdkllmkaaa
open Go.RowKit Go.Shelf
set_option maxRecDepth 100000
set_option linter.unusedVariables false
set_option linter.unusedSimpArgs false

/-- What the reference's At tells: the entry itself. -/
def AtRef (rs : List ME) (i : Int) (x : ME) (c : Bool) : Prop := (c = true ∧ 0 ≤ i ∧ rs[i.toNat]? = some x) ∨ (c = false ∧ ¬ (0 ≤ i ∧ i < (rs.length : Int)) ∧ x = ME.zero)
theorem AtRef.inq {rs : List ME} {i : Int} {x : ME} {c : Bool} (h : AtRef rs i x c) {p : ME → Prop} (h0 : p ME.zero) (hp : ∀ r ∈ rs, p r) : p x := by
  rcases h with ⟨_, _, h⟩ | ⟨_, _, rfl⟩
  · exact hp x (List.mem_of_getElem? h)
  · exact h0
theorem AtRef.plain {rs : List ME} {es : List PE} {i : Int} {x y : ME} {c d : Bool} (h : AtRef rs i x c) (hy : AtR es i y d) (he : es = rs.map ME.plain) : y.plain = x.plain ∧ d = c := by
  subst he
  rcases h with ⟨rfl, h1, h2⟩ | ⟨rfl, h1, rfl⟩
  · have hlt := (List.getElem?_eq_some_iff.1 h2).1
    rcases hy with ⟨rfl, h3, h4⟩ | ⟨rfl, h3, rfl⟩
    · rw [List.getElem?_map, h2] at h4
      simp at h4
      exact ⟨h4.symm, rfl⟩
    · simp only [List.length_map] at h3
      omega
  · rcases hy with ⟨rfl, h3, h4⟩ | ⟨rfl, h3, rfl⟩
    · have hlt := (List.getElem?_eq_some_iff.1 h4).1
      simp only [List.length_map] at hlt
      omega
    · exact ⟨rfl, rfl⟩
def AtToldR (rs : List ME) (i : Int) (w : World) (e : Ending) (w' : World) : Prop := ∃ x c, e = .returned (.tuple #[x.val, .bool c]) ∧ AtRef rs i x c ∧ Touch [] w w'
set_option maxHeartbeats 2000000 in
theorem At_ref (w : World) (a : Option Addr) (cap : Nat) (rs : List ME) (i : Int) (he : EntsAt w a rs) : Calls Try.prog 73 #[.agg #[.slice a rs.length cap], .int .i64 i] w (AtToldR rs i w) := by
  have hbe := build_ent
  simp only [ent_eq, ME.zero, MT.zero, MT.kind, MT.num, MT.addr, MT.parts, MT.cap, List.length_nil] at hbe
  by_cases hin : 0 ≤ i ∧ i < (rs.length : Int)
  · obtain ⟨k, rfl⟩ := Int.eq_ofNat_of_zero_le hin.1
    have hk : k < rs.length := by omega
    have hk1 : ¬ (k : Int) < 0 := by omega
    have hk2 : ¬ (rs.length : Int) ≤ (k : Int) := by omega
    have hk3 : ¬ rs.length ≤ k := by omega
    have hk4 : (k : Int) < (rs.length : Int) := by omega
    have hk0 : (0 : Int) ≤ (k : Int) := by omega
    obtain ⟨b, o, rfl, hbb, p0, p1, p2, p3, p4, p5, p6⟩ := he k hk
    have HXJ : Hid (rs[k]? = some rs[k]) := by unfold Hid; simp [hk]
    generalize rs[k] = x at p0 p1 p2 p3 p4 p5 p6 HXJ
    have HY1 : Hid (EntAt w b (o + k * 7) x) := ⟨p0, p1, p2, p3, p4, p5, p6⟩
    clear he hin p0 p1 p2 p3 p4 p5 p6
    go_enter Try.func73, Try.ntmps73
    go_upto_region 1 with fail
    refine wp_name ?_
    intro w1 hw1
    have HL := Lib.hid ((Led.nil' w).al2 hw1)
    have HTT := Lib.hid HL.out.tch
    simp only [List.nil_append, List.cons_append] at HL
    obtain ⟨b4, hb4⟩ : ∃ b, w.heap.size + 1 = b := ⟨_, rfl⟩
    rw [hb4] at HL ⊢
    obtain ⟨b2, hb2⟩ : ∃ b, w.heap.size = b := ⟨_, rfl⟩
    rw [hb2] at HL ⊢
    clear hw1 hb4 hb2
    obtain ⟨q0, fq, zq, _, _⟩ := HL.out.c1 0 rfl
    obtain ⟨_, _, _, _, _, _, _, _, zr, _, _⟩ := HL.out.c7 1 rfl
    obtain ⟨p0, p1, p2, p3, p4, p5, p6⟩ := HY1.out.touch HTT.out
    have zb : b < w1.heap.size := Nat.lt_of_lt_of_le hbb HTT.out.size
    go_wp2
    have HL5 := Lib.hid (HL.out.setEnt 1 rfl x.sync x.thread x.branch x.flag x.v.kind x.v.num (.slice x.v.addr x.v.parts.length x.v.cap))
    simp only [List.set_cons_zero, List.set_cons_succ] at HL5
    obtain ⟨s0, s1, s2, s3, s4, s5, s6, _⟩ := HL5.out.c7 1 rfl
    refine bodyPost_ret (v := .tuple #[x.val, .bool true]) (by simp [results, Try.results73, go_sem, s0, s1, s2, s3, s4, s5, s6, ent_eq]) rfl ?_
    exact ⟨x, true, rfl, .inl ⟨rfl, by omega, HXJ.out⟩, HL5.out.tch⟩
  · have HIN := Lib.hid hin
    have hor : i < 0 ∨ (rs.length : Int) ≤ i := by omega
    clear hin he
    rcases hor with hi | hi
    all_goals
      go_enter Try.func73, Try.ntmps73
      go_upto_region 1 with fail
      refine wp_name ?_
      intro w1 hw1
      have HL := Lib.hid ((Led.nil' w).al2 hw1)
      have HTT := Lib.hid HL.out.tch
      simp only [List.nil_append, List.cons_append] at HL
      obtain ⟨b4, hb4⟩ : ∃ b, w.heap.size + 1 = b := ⟨_, rfl⟩
      rw [hb4] at HL ⊢
      obtain ⟨b2, hb2⟩ : ∃ b, w.heap.size = b := ⟨_, rfl⟩
      rw [hb2] at HL ⊢
      clear hw1 hb4 hb2
      obtain ⟨q0, fq, zq, _, _⟩ := HL.out.c1 0 rfl
      obtain ⟨_, _, _, _, _, _, _, _, zr, _, _⟩ := HL.out.c7 1 rfl
      go_wp2
      have HL5 := Lib.hid (HL.out.setEnt 1 rfl 0 0 0 0 0 0 (.slice none 0 0))
      simp only [List.set_cons_zero, List.set_cons_succ] at HL5
      obtain ⟨s0, s1, s2, s3, s4, s5, s6, _⟩ := HL5.out.c7 1 rfl
      refine bodyPost_ret (v := .tuple #[ME.zero.val, .bool false]) (by simp [results, Try.results73, go_sem, s0, s1, s2, s3, s4, s5, s6, ent_eq, ME.zero, MT.zero, MT.kind, MT.num, MT.addr, MT.parts, MT.cap]) rfl ?_
      exact ⟨ME.zero, false, rfl, .inr ⟨rfl, HIN.out, rfl⟩, HL5.out.tch⟩
set_option maxHeartbeats 2000000 in
theorem Find_ref (w : World) (a : Option Addr) (cap : Nat) (rs : List ME) (z : Int) (he : EntsAt w a rs) (hlen : rs.length ≤ 1048576) : Calls Try.prog 75 #[.agg #[.slice a rs.length cap], .int .i64 z] w (IdxTold (fun e => e.sync = z) (rs.map ME.plain) 0 w) := by
  have HE := Lib.hid he
  clear he
  go_enter Try.func75, Try.ntmps75
  go_wp2_with fail
  refine wp_name ?_
  intro w1 hw1
  have HL1 := Lib.hid ((Led.nil' w).al1 hw1)
  simp only [List.nil_append, List.cons_append] at HL1
  obtain ⟨b2, hb2⟩ : ∃ b, w.heap.size = b := ⟨_, rfl⟩
  rw [hb2] at HL1 ⊢
  clear hb2 hw1
  obtain ⟨q0, fq, zq, _, _⟩ := HL1.out.c1 0 rfl
  go_loopw [5] (fun i wr => ∃ j : Nat, i = .int .i64 (j : Int) ∧ j ≤ rs.length ∧ Hid (∀ i (h : i < (rs.map ME.plain).length), i < j → (rs.map ME.plain)[i].sync ≠ z) ∧ Hid (Led [] w wr [box b2 54 #[.slice a rs.length cap]])) (fun i _ => rs.length - (intOf i).toNat)
  case atStart => exact ⟨0, rfl, Nat.zero_le _, by unfold Hid; intro i _ h; omega, HL1⟩
  case round =>
    obtain ⟨j, rfl, hj, HD, HW⟩ := hrel
    clear q0 fq zq HL1
    obtain ⟨q0, fq, zq, _, _⟩ := HW.out.c1 0 rfl
    have hj0 : (0 : Int) ≤ (j : Int) := by omega
    by_cases hjl : j < rs.length
    · have hjl' : (j : Int) < (rs.length : Int) := by omega
      obtain ⟨b, o, rfl, hb, p0, p1, p2, p3, p4, p5, p6⟩ := (HE.out.touch HW.out.tch) j hjl
      have HXJ : Hid ((rs.map ME.plain)[j]'(by simpa using hjl) = rs[j].plain) := by unfold Hid; simp
      generalize rs[j] = x at p0 p1 p2 p3 p4 p5 p6 HXJ
      by_cases hs : x.sync = z
      · subst hs
        go_wp2
        go_ret
        exact ⟨(j : Int), rfl, .inr ⟨j, by simpa using hjl, rfl, by omega, by rw [HXJ.out]; rfl, fun i h _ h2 => HD.out i h h2⟩, HW.out.tch⟩
      · go_wp2
        go_roundw
        case rel =>
          refine ⟨j + 1, by go_num, by omega, ?_, HW⟩
          unfold Hid
          intro i h h1
          by_cases hij : i = j
          · subst hij
            rw [HXJ.out]
            exact hs
          · exact HD.out i h (by omega)
        case measure => simp [intOf]; omega
    · have hjl' : ¬ (j : Int) < (rs.length : Int) := by omega
      go_wp2
      go_ret
      exact ⟨-1, rfl, .inl ⟨rfl, fun i h _ => HD.out i h (by simp at h; omega)⟩, HW.out.tch⟩
set_option maxHeartbeats 2000000 in
theorem Next_ref (w : World) (a : Option Addr) (cap : Nat) (rs : List ME) (fr z : Int) (he : EntsAt w a rs) (hlen : rs.length ≤ 1048576) : Calls Try.prog 74 #[.agg #[.slice a rs.length cap], .int .i64 fr, .int .i64 z] w (NextTold (fun e => e.thread ≠ z) (rs.map ME.plain) fr w) := by
  have hmx : ∃ f0 : Nat, max 0 fr = (f0 : Int) ∧ (∀ j : Nat, fr ≤ (j : Int) ↔ f0 ≤ j) := ⟨(max 0 fr).toNat, by omega, fun j => by omega⟩
  obtain ⟨f0, hf0, hf1⟩ := hmx
  have HF := Lib.hid hf1
  clear hf1
  by_cases hfr : fr ≤ 0
  all_goals
    have HE := Lib.hid he
    clear he
    go_enter Try.func74, Try.ntmps74
    go_wp2_with fail
    refine wp_name ?_
    intro w1 hw1
    have HL1 := Lib.hid ((Led.nil' w).al1 hw1)
    simp only [List.nil_append, List.cons_append] at HL1
    obtain ⟨b2, hb2⟩ : ∃ b, w.heap.size = b := ⟨_, rfl⟩
    rw [hb2] at HL1 ⊢
    clear hb2 hw1
    obtain ⟨q0, fq, zq, _, _⟩ := HL1.out.c1 0 rfl

    go_loopw [8] (fun i wr => ∃ j : Nat, i = .int .i64 (j : Int) ∧ f0 ≤ j ∧ Hid (∀ i (h : i < (rs.map ME.plain).length), f0 ≤ i → i < j → ¬ (rs.map ME.plain)[i].thread ≠ z) ∧ Hid (Led [] w wr [box b2 54 #[.slice a rs.length cap]])) (fun i _ => rs.length - (intOf i).toNat)
    case atStart => exact ⟨f0, by congr 1; omega, Nat.le_refl _, by unfold Hid; intro i _ h1 h2; omega, HL1⟩
    case round =>
      obtain ⟨j, rfl, hjf, HD, HW⟩ := hrel
      clear q0 fq zq HL1
      obtain ⟨q0, fq, zq, _, _⟩ := HW.out.c1 0 rfl
      have hj0 : (0 : Int) ≤ (j : Int) := by omega
      by_cases hjl : j < rs.length
      · have hjl' : (j : Int) < (rs.length : Int) := by omega
        obtain ⟨b, o, rfl, hb, p0, p1, p2, p3, p4, p5, p6⟩ := (HE.out.touch HW.out.tch) j hjl
        have HXJ : Hid ((rs.map ME.plain)[j]'(by simpa using hjl) = rs[j].plain) := by unfold Hid; simp
        generalize rs[j] = x at p0 p1 p2 p3 p4 p5 p6 HXJ
        by_cases hs : x.thread = z
        · subst hs
          go_wp2
          go_roundw
          case rel =>
            refine ⟨j + 1, by go_num, by omega, ?_, HW⟩
            unfold Hid
            intro i h h1 h2
            by_cases hij : i = j
            · subst hij
              rw [HXJ.out]
              exact fun hc => hc rfl
            · exact HD.out i h h1 (by omega)
          case measure => simp [intOf]; omega
        · go_wp2
          go_ret2
          exact ⟨(j : Int), true, rfl, ⟨(j : Int), .inr ⟨j, by simpa using hjl, rfl, (HF.out j).2 hjf, by rw [HXJ.out]; exact hs, fun i h h1 h2 => HD.out i h ((HF.out i).1 h1) h2⟩, by omega, by simp⟩, HW.out.tch⟩
      · have hjl' : ¬ (j : Int) < (rs.length : Int) := by omega
        go_wp2
        go_ret2
        exact ⟨0, false, rfl, ⟨-1, .inl ⟨rfl, fun i h h1 => HD.out i h ((HF.out i).1 h1) (by simp at h; omega)⟩, by omega, by simp⟩, HW.out.tch⟩
end Go.Proofs.Ytihmbgdkllmkaaa
