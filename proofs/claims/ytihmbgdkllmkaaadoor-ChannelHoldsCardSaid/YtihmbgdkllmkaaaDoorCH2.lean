/-
  Texts 2 of 3 that ChannelHolds rests on, laid together by program: Q2, Q3, Q4, LedJ, Q5, RangeC, Q6, Set, Q7, QC, Ar, Note, Acc, Cell, Zeros, Alloc, Spin, ArT, FrameN, Still, Loose, Chan1, W13, ScopeIn, RetC, NoQ, R13, R13b, R13c, R13d, R13e, Act13, QuietRound, HeldRound.
-/
import Derived.Test.YtihmbgdkllmkaaaDoorCH1
import Derived.LoopIn
import Derived.MapKept
import Derived.Test.YtihmbgdkllmkaaaDoorProg
import Derived.WalkKit
import Derived.WalkLawsBesides
import Derived.WalkSpells
import Derived.RegionTactic
import Derived.BigRegion
import Derived.Deep.RegionLaw
import Derived.Lib.Hide
import Derived.RangeFuncLeaves
import Derived.Shelf.Abstract
import Derived.Deep.QuietTactic
import Derived.BigQuiet
import Derived.Outline
import Derived.Lib.AppendZerosOnto
import Derived.ControlIn
import Derived.Scope
import Derived.Deep.Cut
import Derived.Deep.RegionHeld3
import Derived.Deep.CutRange
import Derived.Sort.QuietIn
import Derived.RangeFuncCalls
/-
  Layer 13: New, Push (queue.go).
-/
namespace Go.Proofs.YtihmbgdkllmkaaaDoor
open Go.RowKit Go.Shelf
set_option maxRecDepth 100000
set_option linter.unusedVariables false
set_option linter.unusedSimpArgs false

theorem info_ent : (Tryd.prog.info? 42).map (fun i => (i.zero, i.size, i.bytes)) = some (some (.agg #[.int .i64 0, .int .i64 0, .int .i64 0, .int .i64 0, .int .i64 0, .int .i64 0, .slice none 0 0]), 7, 72) := by kernel_rfl
theorem build_list (w : World) : (Instr.build 133 #[(0, .bool true)]).run Tryd.prog w = .ok (.agg #[.bool true, .slice none 0 0]) w := run_build w 133 _ _ (by kernel_rfl)
theorem build_queue (a b : Value) (w : World) (h : Tryd.prog.built 135 [(0, .agg #[a, b])] = some #[a, b]) : (Instr.build 135 #[(0, .agg #[a, b])]).run Tryd.prog w = .ok (.agg #[a, b]) w := run_build w 135 _ _ h
set_option maxHeartbeats 1000000 in
theorem New_q {T : List Nat} {w0 : World} {l : List Thing} (w : World) (h : Led T w0 w l) : Calls Tryd.prog 64 #[] w fun e w' => ∃ g, e = .returned (.pointer (some ⟨g, 0, none⟩)) ∧ Led T w0 w' (l ++ [queueT g []]) := by
  have hb1 := build_list
  have hb2 : ∀ W, (Instr.build 135 #[(0, .agg #[.bool true, .slice none 0 0])]).run Tryd.prog W = .ok (.agg #[.bool true, .slice none 0 0]) W := fun W => build_queue _ _ W (by kernel_rfl)
  have H := Lib.hid h
  clear h
  go_enter Tryd.func64, Tryd.ntmps64
  go_wp2
  go_ret
  refine ⟨w.heap.size, rfl, ?_⟩
  have h := (H.out.alloc 135 #[.bool true, .slice none 0 0]).rowSnil 42 7
  rw [List.append_assoc] at h
  exact Led.shutQ (es := []) h

/-- What Push of xs onto n entries takes: the first k; an error. -/
def PushR (n : Nat) (xs : List PE) (k : Nat) (err : Int) : Prop :=
  (∀ i (h : i < xs.length), i < k → xs[i].Ok) ∧ n + k ≤ 4096 ∧ k ≤ xs.length ∧ ((err = 0 ∧ k = xs.length) ∨ ∃ h : k < xs.length, (err = 2 ∧ ¬ xs[k].Ok) ∨ (err = 6 ∧ xs[k].Ok ∧ n + k = 4096))
def Pushed (T : List Nat) (w : World) (g : Nat) (es xs : List ME) (e : Ending) (w' : World) : Prop :=
  ∃ k err ys, e = .returned (.int .i64 err) ∧ PushR es.length (xs.map ME.plain) k err ∧ ys.map ME.plain = (xs.map ME.plain).take k ∧ Led T w w' [queueT g (es ++ ys), valsT (ys.map ME.v)]
/-- The frame of one thing: what is beside it is kept. -/
theorem Led.frameK {T : List Nat} {w0 w : World} {l : List Thing} {t : Thing} (h : Led T w0 w l) (i : Nat) (hi : l[i]? = some t) :
    ∃ T', Led T' w w [t] ∧ (∀ k ∈ T', k ∈ T ∨ w0.heap.size ≤ k) ∧ (∀ W, Touch T' w W → ∀ j u, j ≠ i → l[j]? = some u → ∃ f, u.holds W f) ∧ ∀ w' t' rest, Led T' w w' (t' :: rest) → Led T w0 w' (l.set i t' ++ rest) := by
  have hz := h.size
  obtain ⟨hb, F, h1, h2⟩ := h
  have hi' := (List.getElem?_eq_some_iff.1 hi).1
  obtain ⟨ha1, ha2⟩ := h1 i t hi
  have hL : Led T w0 w l := ⟨hb, F, h1, h2⟩
  refine ⟨F i, ⟨Touch.refl _ _, fun _ => F i, ?_, ?_⟩, ha2, ?_, ?_⟩
  · intro j u hj
    cases j with
    | zero => simp at hj; subst hj; exact ⟨ha1, fun k hk => .inl hk⟩
    | succ j => simp at hj
  · intro j k hj hk hjk; simp at hj hk; omega
  · intro W hW j u hji hj
    obtain ⟨hu, _⟩ := h1 j u hj
    have hj' := (List.getElem?_eq_some_iff.1 hj).1
    exact ⟨F j, u.keep hu (fun k hk => hW.block k (u.lt hu k hk) (h2 j i hj' hi' hji k hk))⟩
  · rintro w' t' rest ⟨hT, F', h1', h2'⟩
    have hnewF : ∀ m, m < (t' :: rest).length → ∀ x ∈ F' m, x ∈ F i ∨ w.heap.size ≤ x := fun m hm x hx => (h1' m _ (List.getElem?_eq_getElem hm)).2 x hx
    have hoth : ∀ m, m < l.length → m ≠ i → ∀ x ∈ F m, ∀ p, p < (t' :: rest).length → x ∉ F' p := fun m hm hmi x hx p hp hc => by
      have hlt := l[m].lt (h1 m l[m] (List.getElem?_eq_getElem hm)).1 x hx
      rcases hnewF p hp x hc with h | h
      · exact h2 m i hm hi' hmi x hx h
      · omega
    refine ⟨hb.trans hT ha2, fun m => if m = i then F' 0 else if m < l.length then F m else F' (m - l.length + 1), ?_, ?_⟩
    · intro m u hm
      by_cases hml : m < l.length
      · rw [List.getElem?_append_left (by simpa using hml)] at hm
        by_cases hmi : m = i
        · subst hmi
          rw [List.getElem?_set_self hi'] at hm
          cases hm
          simp only [if_true]
          obtain ⟨a, b⟩ := h1' 0 t' rfl
          exact ⟨a, fun k hk => (b k hk).elim (ha2 k) (fun h => .inr (by omega))⟩
        · rw [List.getElem?_set_ne (fun e => hmi e.symm)] at hm
          simp only [if_neg hmi, if_pos hml]
          obtain ⟨hu, hu2⟩ := h1 m u hm
          exact ⟨u.keep hu (fun k hk => hT.block k (u.lt hu k hk) (h2 m i hml hi' hmi k hk)), hu2⟩
      · rw [List.getElem?_append_right (by simpa using hml)] at hm
        have hmi : m ≠ i := by omega
        simp only [if_neg hmi, if_neg hml]
        obtain ⟨a, b⟩ := h1' (m - l.length + 1) u (by simpa using hm)
        exact ⟨a, fun k hk => (b k hk).elim (ha2 k) (fun h => .inr (by omega))⟩
    · intro m n hm hn hmn x hx hx2
      dsimp only at hx hx2
      simp only [List.length_append, List.length_set] at hm hn
      by_cases hmi : m = i
      · rw [if_pos hmi] at hx
        rw [if_neg (by omega)] at hx2
        by_cases hnl : n < l.length
        · rw [if_pos hnl] at hx2
          exact hoth n hnl (by omega) x hx2 0 (by simp) hx
        · rw [if_neg hnl] at hx2
          exact h2' 0 (n - l.length + 1) (by simp) (by simp; omega) (by omega) x hx hx2
      · rw [if_neg hmi] at hx
        by_cases hni : n = i
        · rw [if_pos hni] at hx2
          by_cases hml : m < l.length
          · rw [if_pos hml] at hx
            exact hoth m hml hmi x hx 0 (by simp) hx2
          · rw [if_neg hml] at hx
            exact h2' 0 (m - l.length + 1) (by simp) (by simp; omega) (by omega) x hx2 hx
        · rw [if_neg hni] at hx2
          by_cases hml : m < l.length
          · rw [if_pos hml] at hx
            by_cases hnl : n < l.length
            · rw [if_pos hnl] at hx2; exact h2 m n hml hnl hmn x hx hx2
            · rw [if_neg hnl] at hx2; exact hoth m hml hmi x hx (n - l.length + 1) (by simp; omega) hx2
          · rw [if_neg hml] at hx
            by_cases hnl : n < l.length
            · rw [if_pos hnl] at hx2; exact hoth n hnl hni x hx2 (m - l.length + 1) (by simp; omega) hx
            · rw [if_neg hnl] at hx2; exact h2' (m - l.length + 1) (n - l.length + 1) (by simp; omega) (by simp; omega) (by omega) x hx hx2

theorem Led.shutP {T : List Nat} {w0 w : World} {g n : Nat} {v : Value} {L : List ME} {vs : List MT} {rest : List Thing} (hn : L.length = n) (h : Led T w0 w (Proofs.YtihmbgdkllmkaaaDoor.box g 135 #[.bool true, v] :: rowT 42 7 v n (entCells L) :: valsT vs :: rest)) : Led T w0 w [queueT g L, valsT vs] := by
  subst hn
  have h1 : Led T w0 w ([valsT vs] ++ [Proofs.YtihmbgdkllmkaaaDoor.box g 135 #[.bool true, v], rowT 42 7 v L.length (entCells L)]) := h.sel [2, 0, 1] rfl (by decide)
  exact h1.shutQ.sel [1, 0] rfl (by decide)
set_option maxHeartbeats 4000000 in
theorem Push_q (T : List Nat) (w : World) (g : Nat) (es xs : List ME) (a : Option Addr) (cap : Nat) (h : Led T w w [queueT g es]) (hsrc : ∀ W, Touch T w W → EntsAt W a xs ∧ ∀ x ∈ xs, x.v.In W) (hn : xs.length ≤ 1099511627776) (hes : es.length ≤ 4096) :
    Calls Tryd.prog 39 #[.pointer (some ⟨g, 0, none⟩), .slice a xs.length cap] w (Pushed T w g es xs) := by
  obtain ⟨qa, qc, hqc1, hqc2, h1⟩ := Led.openQ (l := []) h
  have HL1 := Lib.hid h1.vals0
  simp only [List.nil_append, List.cons_append] at HL1
  have HSRC := Lib.hid hsrc
  clear h h1 hsrc hqc1 hqc2
  obtain ⟨q0, q1, _, _, zq, _, _⟩ := HL1.out.c2 0 rfl
  go_enter Tryd.func39, Tryd.ntmps39
  go_wp2
  refine wp_scope_fwd 0 rfl ?_
  go_wp2_with fail
  refine (none_no g w q0).mono ?_
  rintro e w' ⟨rfl, rfl⟩
  go_wp2_with fail
  go_loopw [5, 12] (fun er i wr => ∃ (j : Nat) (ys : List ME) (qa : Option Addr) (qc : Nat), j ≤ xs.length ∧ i = .int .i64 (j : Int) ∧ er = .int .i64 0 ∧ es.length + j ≤ 4096 ∧ (es ++ ys).length = es.length + j ∧ Hid (ys.map ME.plain = (xs.map ME.plain).take j) ∧ Hid (∀ i (h : i < (xs.map ME.plain).length), i < j → (xs.map ME.plain)[i].Ok) ∧
    Hid (Led T w wr [box g 135 #[.bool true, .slice qa (es.length + j) qc], rowT 42 7 (.slice qa (es.length + j) qc) (es.length + j) (entCells (es ++ ys)), valsT (ys.map ME.v)])) (fun _ i _ => xs.length - (intOf i).toNat)
  case atStart => exact ⟨0, [], qa, qc, Nat.zero_le _, rfl, rfl, by omega, by simp, by unfold Hid; simp, by unfold Hid; intro i _ h; omega, by simpa using HL1⟩
  case round =>
    obtain ⟨j, ys, qa, qc, hj, rfl, rfl, hj2, hyl, HY, HO, HK⟩ := hrel
    clear HL1 q0 q1 zq
    have hj0 : (0 : Int) ≤ (j : Int) := by omega
    by_cases hjl : j < xs.length
    · have hjl' : (j : Int) < (xs.length : Int) := by omega
      obtain ⟨b, o, rfl, hb, p0, p1, p2, p3, p4, p5, p6⟩ := (HSRC.out wr HK.out.tch).1 j hjl
      have HI := Lib.hid ((HSRC.out wr HK.out.tch).2 _ (List.getElem_mem hjl))
      have HXJ : Hid ((xs.map ME.plain)[j]? = some xs[j].plain) := by unfold Hid; simp [hjl]
      generalize xs[j] = x at p0 p1 p2 p3 p4 p5 p6 HI HXJ
      go_wp2_with fail
      refine wp_calls_name ?_
      intro w2 hw2
      have HL2 := Lib.hid (HK.out.al1 hw2)
      have HT2 : Hid (Touch [] wr w2) := hw2 ▸ (Touch.refl [] wr).alloc _
      simp only [List.nil_append, List.cons_append] at HL2
      obtain ⟨b7, hb7⟩ : ∃ b, wr.heap.size = b := ⟨_, rfl⟩
      rw [hb7] at HL2 ⊢
      clear hw2 hb7 p0 p1 p2 p3 p4 p5 p6 hb
      refine (valid_q x w2 (HI.out.touch0 HT2.out)).mono ?_
      rintro e w3 ⟨cc, rfl, hcc, ht⟩
      have HL3 := Lib.hid (HL2.out.touch ht)
      have HT3 := Lib.hid (HT2.out.trans' ht)
      have HCC := Lib.hid hcc
      clear hcc ht HL2 HT2
      cases cc with
      | false =>
        go_wp2
        go_step3
        refine ⟨rfl, ?_⟩
        go_wp2
        refine noGoto_ret' ?_
        go_ret
        refine ⟨j, 2, ys, rfl, ⟨HO.out, by omega, by simp; omega, .inr ⟨by simp; omega, .inl ⟨rfl, ?_⟩⟩⟩, HY.out, ?_⟩
        · have h := HXJ.out
          rw [List.getElem?_eq_getElem (by simp; omega)] at h
          injection h with h
          rw [h]
          intro hok
          have := HCC.out.2 hok
          cases this
        · exact HL3.out.shutP hyl
      | true =>
        obtain ⟨q0, q1, fq0, fq1, zq, _, _⟩ := HL3.out.c2 0 rfl
        go_wp2_with fail
        refine (count_q g _ _ _ w3 q1).mono ?_
        rintro e w' ⟨rfl, rfl⟩
        by_cases hfull : es.length + j = 4096
        · have hf1 : (4096 : Int) ≤ ((es.length + j : Nat) : Int) := by omega
          go_wp2
          go_step3
          refine ⟨rfl, ?_⟩
          go_wp2
          refine noGoto_ret' ?_
          go_ret
          refine ⟨j, 6, ys, rfl, ⟨HO.out, by omega, by simp; omega, .inr ⟨by simp; omega, .inr ⟨rfl, ?_, hfull⟩⟩⟩, HY.out, ?_⟩
          · have h := HXJ.out
            rw [List.getElem?_eq_getElem (by simp; omega)] at h
            injection h with h
            rw [h]
            exact HCC.out.1 (by simp)
          · exact HL3.out.shutP hyl
        · have hf1 : ¬ (4096 : Int) ≤ ((es.length + j : Nat) : Int) := by omega
          obtain ⟨i0, hi0, iz0, iz1, iz2⟩ := info_parts info_ent
          have HXN : Hid (x.v.nodes ≤ 256) := by
            have h1 := (HCC.out.1 (by simp)).nodes
            simp only [ME.plain, MT.plain_nodes] at h1
            exact h1
          have HXI := Lib.hid (HI.out.touch0 HT3.out)
          obtain ⟨x0, x1, x2, x3, x4, x5, x6, _, zx, _, _⟩ := HL3.out.c7 3 rfl
          go_wp2_with fail
          go_region_law (first
            | (refine step_append_S _ rfl (.tmp 29) (.tmp 32) 56 rfl 42 i0 _ 7 72 Tryd.underlying56 hi0 iz0 iz1 iz2 rfl (by decide) (.slice qa (es.length + j) qc) (es.length + j) (entCells (es ++ ys)) (by simp [Act.eval]) ((HL4.out.alloc_ _).rowSAt 1 rfl) (some ⟨w4.heap.size, 0, none⟩) 1 1 x'.cells (by simp [Act.eval]) rfl (.inr ⟨_, rfl, World.news_of_block (heap_alloc_new w4 _)⟩) (by have := ents_one [x']; simpa [entCells] using this) (by simp only [maxLen]; omega) (by omega) ?_; intro a5 c5 w5 hown hgrow hat; have HL5 := Lib.hid ((HL4.out.alloc_ _).grownS 1 rfl hgrow hown hat); simp only [List.set_cons_succ, List.set_cons_zero] at HL5; clear hown hgrow hat q0 q1 fq0 fq1 zq; obtain ⟨q0, q1, fq0, fq1, zq, _, _⟩ := HL5.out.c2 0 rfl)
            | (go_simp; refine (copyEntry_q x w3.drew (HXI.out.touch0 (Touch.refl [] w3).drew) HXN.out).mono ?_; rintro e w4 ⟨x', rfl, hpl, hin, hnew, ht⟩; have HL4 := Lib.hid (HL3.out.drew.valsNew (vs := [x'.v]) ht (by simpa using hin) (by simpa using hnew)); simp only [List.nil_append, List.cons_append] at HL4; have HPL := Lib.hid hpl; clear hpl hin hnew ht q0 q1 fq0 fq1 zq x0 x1 x2 x3 x4 x5 x6 zx; obtain ⟨q0, q1, fq0, fq1, zq, _, _⟩ := HL4.out.c2 0 rfl; simp only [ent_eq]))
          all_goals
            have HL6 : Hid (Led T w (w5.setCell ⟨g, 1, none⟩ (.slice a5 (es.length + j + 1) c5)) [box g 135 #[.bool true, .slice a5 (es.length + (j + 1)) c5], rowT 42 7 (.slice a5 (es.length + (j + 1)) c5) (es.length + (j + 1)) (entCells (es ++ (ys ++ [x']))), valsT ((ys ++ [x']).map ME.v)]) := by
              have h := HL5.out.set 0 rfl 1 (.slice a5 (es.length + j + 1) c5)
              simp only [List.set_cons_succ, List.set_cons_zero, List.setIfInBounds_toArray] at h
              have h2 := Led.valsJoin (l := [_, _]) (h.sel [0, 1, 2, 4] rfl (by decide))
              rw [← List.append_assoc, entCells_append, List.map_append]
              exact h2
            have HY6 : Hid ((ys ++ [x']).map ME.plain = (xs.map ME.plain).take (j + 1)) := by
              unfold Hid
              rw [List.take_add_one, HXJ.out, List.map_append, HY.out, ← HPL.out]
              rfl
            have HO6 : Hid (∀ i (h : i < (xs.map ME.plain).length), i < j + 1 → (xs.map ME.plain)[i].Ok) := by
              unfold Hid
              intro i h hi
              by_cases hij : i < j
              · exact HO.out i h hij
              · obtain rfl : i = j := by omega
                have h2 := HXJ.out
                rw [List.getElem?_eq_getElem h] at h2
                injection h2 with h2
                rw [h2]
                exact HCC.out.1 (by simp)
            have hyl6 : (es ++ (ys ++ [x'])).length = es.length + (j + 1) := by simp at hyl ⊢; omega
            clear HL5 HL4 HL3 q0 q1 fq0 fq1 zq
            go_wp2
            go_roundw
            case rel => exact ⟨j + 1, ys ++ [x'], a5, c5, by omega, by go_num, rfl, by omega, hyl6, HY6, HO6, HL6⟩
            case measure => simp [intOf]; omega
    · have hjl' : ¬ (j : Int) < (xs.length : Int) := by omega
      obtain rfl : j = xs.length := by omega
      go_wp2
      go_step3
      go_wp2
      refine jump_ret ?_
      go_ret
      refine ⟨xs.length, 0, ys, rfl, ⟨HO.out, by omega, by simp, .inl ⟨rfl, by simp⟩⟩, HY.out, ?_⟩
      exact HK.out.shutP hyl
end Go.Proofs.YtihmbgdkllmkaaaDoor

/-
  Layer 13: At, Len, Drop (queue.go).
-/
namespace Go.Proofs.YtihmbgdkllmkaaaDoor
open Go.RowKit Go.Shelf
set_option maxRecDepth 100000
set_option linter.unusedVariables false
set_option linter.unusedSimpArgs false

/-- A queue lies at g. -/
def QAt (w : World) (g : Nat) (es : List ME) : Prop := ∃ a cap, Blk w g 135 #[.bool true, .slice a es.length cap] ∧ es.length ≤ cap ∧ cap ≤ maxLen ∧ rowS w 42 7 (.slice a es.length cap) es.length (entCells es)
theorem Led.qAt {T : List Nat} {w0 w : World} {l : List Thing} {g : Nat} {es : List ME} (h : Led T w0 w l) (i : Nat) (hi : l[i]? = some (queueT g es)) : QAt w g es := h.q0 i hi
theorem QAt.touch {w w' : World} {g : Nat} {es : List ME} (h : QAt w g es) (ht : Touch [] w w') : QAt w' g es := by
  obtain ⟨a, cap, h1, h2, h3, h4⟩ := h
  exact ⟨a, cap, h1.touch ht (by simp), h2, h3, rowS_keep h4 (fun k hk => ht.block k (rowS_lt h4 k hk) (by simp))⟩

theorem Len_q (w : World) (g : Nat) (es : List ME) (h : QAt w g es) : Calls Tryd.prog 42 #[.pointer (some ⟨g, 0, none⟩)] w fun e w' => e = .returned (.int .i64 (es.length : Int)) ∧ w = w' := by
  obtain ⟨a, cap, hb, _, _, _⟩ := h
  have q0 := hb.cell 0
  have q1 := hb.cell 1
  simp at q0 q1
  go_enter Tryd.func42, Tryd.ntmps42
  go_wp2_with fail
  refine (none_no g w q0).mono ?_
  rintro e w' ⟨rfl, rfl⟩
  go_wp2_with fail
  refine (count_q g _ _ _ w q1).mono ?_
  rintro e w' ⟨rfl, rfl⟩
  go_wp2
  go_ret
  exact ⟨rfl, rfl⟩

theorem Led.setEnt {T : List Nat} {w0 w : World} {l : List Thing} (h : Led T w0 w l) (i : Nat) {b t : Nat} {y0 y1 y2 y3 y4 y5 y6 : Value} (hi : l[i]? = some (Proofs.YtihmbgdkllmkaaaDoor.box b t #[y0, y1, y2, y3, y4, y5, y6])) (s th br f k n : Int) (v : Value) :
    Led T w0 (((((((w.setCell ⟨b, 0, none⟩ (.int .i64 s)).setCell ⟨b, 1, none⟩ (.int .i64 th)).setCell ⟨b, 2, none⟩ (.int .i64 br)).setCell ⟨b, 3, none⟩ (.int .i64 f)).setCell ⟨b, 4, none⟩ (.int .i64 k)).setCell ⟨b, 5, none⟩ (.int .i64 n)).setCell ⟨b, 6, none⟩ v)
      (l.set i (Proofs.YtihmbgdkllmkaaaDoor.box b t #[.int .i64 s, .int .i64 th, .int .i64 br, .int .i64 f, .int .i64 k, .int .i64 n, v])) := by
  have hl := (List.getElem?_eq_some_iff.1 hi).1
  have e : ∀ (l : List Thing) (t1 t2 : Thing), (l.set i t1).set i t2 = l.set i t2 := fun l t1 t2 => List.set_set t1
  have g : ∀ (t1 : Thing), (l.set i t1)[i]? = some t1 := fun t1 => List.getElem?_set_self hl
  have h1 := h.set i hi 0 (.int .i64 s)
  have h2 := h1.set i (g _) 1 (.int .i64 th)
  rw [e] at h2
  have h3 := h2.set i (g _) 2 (.int .i64 br)
  rw [e] at h3
  have h4 := h3.set i (g _) 3 (.int .i64 f)
  rw [e] at h4
  have h5 := h4.set i (g _) 4 (.int .i64 k)
  rw [e] at h5
  have h6 := h5.set i (g _) 5 (.int .i64 n)
  rw [e] at h6
  have h7 := h6.set i (g _) 6 v
  rw [e] at h7
  simp only [List.setIfInBounds_toArray, List.set_cons_zero, List.set_cons_succ] at h7
  exact h7
/-- Entry i of some, if there is one. -/
def AtR (es : List PE) (i : Int) (x : ME) (c : Bool) : Prop := (c = true ∧ 0 ≤ i ∧ es[i.toNat]? = some x.plain) ∨ (c = false ∧ ¬ (0 ≤ i ∧ i < (es.length : Int)) ∧ x = ME.zero)
def AtTold (es : List PE) (i : Int) (w : World) (e : Ending) (w' : World) : Prop := ∃ x c, e = .returned (.tuple #[x.val, .bool c]) ∧ AtR es i x c ∧ x.v.In w' ∧ (∀ k ∈ x.v.blocks, w.heap.size ≤ k) ∧ Touch [] w w'
theorem build_ent (w : World) : (Instr.build 42 #[]).run Tryd.prog w = .ok ME.zero.val w := run_build w 42 _ _ (by kernel_rfl)
set_option maxHeartbeats 2000000 in
theorem At_q (w : World) (g : Nat) (es : List ME) (i : Int) (h : QAt w g es) (hin : ∀ e ∈ es, e.v.In w ∧ e.v.nodes ≤ 256) : Calls Tryd.prog 44 #[.pointer (some ⟨g, 0, none⟩), .int .i64 i] w (AtTold (es.map ME.plain) i w) := by
  have HIN := Lib.hid hin
  clear hin
  obtain ⟨a, cap, hb, hc1, hc2, hr⟩ := h
  have HQ : Hid (∀ W, Touch [] w W → W.cell? ⟨g, 0, none⟩ = some (.bool true) ∧ W.cell? ⟨g, 1, none⟩ = some (.slice a es.length cap) ∧ g < W.heap.size) := fun W hW => ⟨hW.cellOf (hb.cell 0), hW.cellOf (hb.cell 1), Nat.lt_of_lt_of_le hb.lt hW.size⟩
  have hbe := build_ent
  simp only [ent_eq, ME.zero, MT.zero, MT.kind, MT.num, MT.addr, MT.parts, MT.cap, List.length_nil] at hbe
  go_enter Tryd.func44, Tryd.ntmps44
  go_wp2_with fail
  refine wp_calls_name ?_
  intro w1 hw1
  have HL1 := Lib.hid ((Led.nil' w).al1 hw1)
  simp only [List.nil_append, List.cons_append] at HL1
  obtain ⟨b4, hb4⟩ : ∃ b, w.heap.size = b := ⟨_, rfl⟩
  rw [hb4] at HL1 ⊢
  clear hb4 hw1
  obtain ⟨q0, q1, zq⟩ := HQ.out w1 HL1.out.tch
  refine (none_no g w1 q0).mono ?_
  rintro e w' ⟨rfl, rfl⟩
  go_wp2_with fail
  refine (has_q g _ _ _ i w1 q1).mono ?_
  rintro e w' ⟨⟨cc, rfl, hcc⟩, rfl⟩
  have HCC := Lib.hid hcc
  clear hcc
  obtain ⟨r0, r1, r2, r3, r4, r5, r6, ⟨f0, f1, f2, f3, f4, f5, f6⟩, zr, _, _⟩ := HL1.out.c7 0 rfl
  cases cc with
  | false =>
    go_wp2
    have HL2 := Lib.hid (HL1.out.setEnt 0 rfl 0 0 0 0 0 0 (.slice none 0 0))
    simp only [List.set_cons_zero] at HL2
    obtain ⟨s0, s1, s2, s3, s4, s5, s6, _⟩ := HL2.out.c7 0 rfl
    refine bodyPost_ret (v := .tuple #[ME.zero.val, .bool false]) (by simp [results, Tryd.results44, go_sem, s0, s1, s2, s3, s4, s5, s6, ent_eq, ME.zero, MT.zero, MT.kind, MT.num, MT.addr, MT.parts, MT.cap]) rfl ?_
    refine ⟨ME.zero, false, rfl, .inr ⟨rfl, fun hx => ?_, rfl⟩, MT.in_zero _, by simp [ME.zero, MT.zero, MT.blocks, MT.blocksAll], HL2.out.tch⟩
    have := HCC.out.2 (by simpa using hx)
    cases this
  | true =>
    obtain ⟨hi1, hi2⟩ := HCC.out.1 (by simp)
    obtain ⟨k, rfl⟩ := Int.eq_ofNat_of_zero_le hi1
    have hk : k < es.length := by omega
    obtain ⟨b, o, rfl, hbb, p0, p1, p2, p3, p4, p5, p6⟩ := (ents_of_rowS hr).touch HL1.out.tch k hk
    have HI := Lib.hid (HIN.out _ (List.getElem_mem hk))
    have HXJ : Hid ((es.map ME.plain)[k]? = some es[k].plain) := by unfold Hid; simp [hk]
    generalize es[k] = x at p0 p1 p2 p3 p4 p5 p6 HI HXJ
    go_wp2_with fail
    refine (copyEntry_q x w1 (HI.out.1.touch0 HL1.out.tch) HI.out.2).mono ?_
    rintro e w4 ⟨x', rfl, hpl, hxin, hnew, ht⟩
    have HL4 := Lib.hid (HL1.out.valsNew (vs := [x'.v]) ht (by simpa using hxin) (by simpa using hnew))
    simp only [List.nil_append, List.cons_append] at HL4
    have HPL := Lib.hid hpl
    have HNW : Hid (∀ k ∈ x'.v.blocks, w.heap.size ≤ k) := fun k hk => Nat.le_trans HL1.out.size (hnew k hk)
    clear hpl hxin hnew ht r0 r1 r2 r3 r4 r5 r6 f0 f1 f2 f3 f4 f5 f6 zr p0 p1 p2 p3 p4 p5 p6
    obtain ⟨r0, r1, r2, r3, r4, r5, r6, ⟨f0, f1, f2, f3, f4, f5, f6⟩, zr, _, _⟩ := HL4.out.c7 0 rfl
    simp only [ent_eq]
    go_wp2
    have HL5 := Lib.hid (HL4.out.setEnt 0 rfl x'.sync x'.thread x'.branch x'.flag x'.v.kind x'.v.num (.slice x'.v.addr x'.v.parts.length x'.v.cap))
    simp only [List.set_cons_zero] at HL5
    obtain ⟨s0, s1, s2, s3, s4, s5, s6, _⟩ := HL5.out.c7 0 rfl
    refine bodyPost_ret (v := .tuple #[x'.val, .bool true]) (by simp [results, Tryd.results44, go_sem, s0, s1, s2, s3, s4, s5, s6, ent_eq]) rfl ?_
    exact ⟨x', true, rfl, .inl ⟨rfl, by omega, by rw [HPL.out]; exact HXJ.out⟩, HL5.out.valsIn 1 rfl _ (by simp), HNW.out, HL5.out.tch⟩

theorem Led.rowCut {T : List Nat} {w0 w : World} {l : List Thing} (h : Led T w0 w l) (i : Nat) {e size g n cap : Nat} {xs : List Value} (hi : l[i]? = some (rowT e size (.slice (some ⟨g, 0, none⟩) n cap) n xs)) (m c : Nat) (hm : m ≤ c) (hc : c ≤ n) : Led T w0 w (l.set i (rowT e size (.slice (some ⟨g, 0, none⟩) m c) m (xs.take (m * size)))) := by
  obtain ⟨f, ⟨hf, hb⟩, _, hs⟩ := h.step i hi
  subst hf
  exact hs w _ _ ⟨rfl, rowS_cut hb m c hm hc rfl (.inl (by simp))⟩ ⟨Touch.refl _ _, fun k hk => .inl hk⟩
/-- Drop: what it tells, and what is left. -/
def Dropped (T : List Nat) (w : World) (g : Nat) (es : List ME) (i : Int) (e : Ending) (w' : World) : Prop :=
  (∃ x, 0 ≤ i ∧ es[i.toNat]? = some x ∧ e = .returned (.tuple #[x.val, .bool true]) ∧ Led T w w' [queueT g (es.eraseIdx i.toNat)]) ∨
  (¬ (0 ≤ i ∧ i < (es.length : Int)) ∧ e = .returned (.tuple #[ME.zero.val, .bool false]) ∧ Led T w w' [queueT g es])
set_option maxHeartbeats 4000000 in
theorem Drop_q (T : List Nat) (w : World) (g : Nat) (es : List ME) (i : Int) (hL : Led T w w [queueT g es]) (hes : es.length ≤ 1048576) : Calls Tryd.prog 36 #[.pointer (some ⟨g, 0, none⟩), .int .i64 i] w (Dropped T w g es i) := by
  obtain ⟨qa, qc, hqc1, hqc2, h1⟩ := Led.openQ (l := []) hL
  have HK := Lib.hid h1
  simp only [List.nil_append] at HK
  have hbe := build_ent
  simp only [ent_eq, ME.zero, MT.zero, MT.kind, MT.num, MT.addr, MT.parts, MT.cap, List.length_nil] at hbe
  clear h1 hL
  go_enter Tryd.func36, Tryd.ntmps36
  go_wp2_with fail
  refine wp_calls_name ?_
  intro w1 hw1
  have HL1 := Lib.hid (HK.out.al1 hw1)
  simp only [List.nil_append, List.cons_append] at HL1
  obtain ⟨b4, hb4⟩ : ∃ b, w.heap.size = b := ⟨_, rfl⟩
  rw [hb4] at HL1 ⊢
  clear hb4 hw1 HK
  obtain ⟨q0, q1, fq0, fq1, zq, _, _⟩ := HL1.out.c2 0 rfl
  refine (none_no g w1 q0).mono ?_
  rintro e w' ⟨rfl, rfl⟩
  go_wp2_with fail
  refine (has_q g _ _ _ i w1 q1).mono ?_
  rintro e w' ⟨⟨cc, rfl, hcc⟩, rfl⟩
  have HCC := Lib.hid hcc
  clear hcc
  obtain ⟨r0, r1, r2, r3, r4, r5, r6, ⟨f0, f1, f2, f3, f4, f5, f6⟩, zr, _, _⟩ := HL1.out.c7 2 rfl
  cases cc with
  | false =>
    go_wp2
    have HL2 := Lib.hid (HL1.out.setEnt 2 rfl 0 0 0 0 0 0 (.slice none 0 0))
    simp only [List.set_cons_zero, List.set_cons_succ] at HL2
    obtain ⟨s0, s1, s2, s3, s4, s5, s6, _⟩ := HL2.out.c7 2 rfl
    refine bodyPost_ret (v := .tuple #[ME.zero.val, .bool false]) (by simp [results, Tryd.results36, go_sem, s0, s1, s2, s3, s4, s5, s6, ent_eq, ME.zero, MT.zero, MT.kind, MT.num, MT.addr, MT.parts, MT.cap]) rfl ?_
    refine .inr ⟨fun hx => ?_, rfl, ?_⟩
    · have := HCC.out.2 hx
      cases this
    · exact Led.shutQ (l := []) (HL2.out.sel [0, 1] rfl (by decide))
  | true =>
    obtain ⟨hi1, hi2⟩ := HCC.out.1 (by simp)
    obtain ⟨k, rfl⟩ := Int.eq_ofNat_of_zero_le hi1
    have hk : k < es.length := by omega
    obtain ⟨gr, cap', cur, hv, _⟩ := rowS_form (HL1.out.rowSAt 1 rfl) (by omega)
    injection hv with hv1 _ hv3
    subst hv1 hv3
    obtain ⟨b, o, hbo, hbb, p0, p1, p2, p3, p4, p5, p6⟩ := (ents_of_rowS (HL1.out.rowSAt 1 rfl)) k hk
    injection hbo with hbo
    injection hbo with hbo1 hbo2
    subst hbo1 hbo2
    have HXJ : Hid (es[k]? = some es[k]) := by unfold Hid; simp [hk]
    generalize es[k] = x at p0 p1 p2 p3 p4 p5 p6 HXJ
    obtain ⟨i0, hi0, iz0, iz1, iz2⟩ := info_parts info_ent
    obtain ⟨sa, hsa, hsl2⟩ := run_slice_from Tryd.underlying56 hi0 (some ⟨gr, 0, none⟩) es.length qc (k + 1) (by omega) hqc1
    have hsl1 := fun W => run_slice_cut Tryd.underlying56 hi0 (some ⟨gr, 0, none⟩) es.length qc k (by omega) W
    have HSA := Lib.hid hsa
    clear hsa
    rw [show (((k + 1 : Nat)) : Int) = (k : Int) + 1 by omega] at hsl2
    simp only [Nat.zero_add] at p0 p1 p2 p3 p4 p5 p6
    have hwk : IntKind.i64.wrap ((k : Int) + 1) = (k : Int) + 1 := IntWalk.i64_in _ (by omega)
    go_wp2_with fail
    refine wp_name ?_
    intro w2 hw2
    have HL2 := Lib.hid (HL1.out.al1 hw2)
    simp only [List.nil_append, List.cons_append] at HL2
    obtain ⟨b6, hb6⟩ : ∃ b, w1.heap.size = b := ⟨_, rfl⟩
    rw [hb6] at HL2 ⊢
    clear hw2 hb6 HL1 p0 p1 p2 p3 p4 p5 p6 q0 q1 fq0 fq1 zq r0 r1 r2 r3 r4 r5 r6 f0 f1 f2 f3 f4 f5 f6 zr hbb
    have HLC := Lib.hid (HL2.out.drew.rowCut 1 rfl k k (Nat.le_refl _) (by omega))
    simp only [List.set_cons_zero, List.set_cons_succ] at HLC
    have HLN : Hid (((entCells es).drop ((k + 1) * 7)).length = (es.length - (k + 1)) * 7) := by
      unfold Hid
      rw [List.length_drop, entCells_length, Nat.sub_mul]
    obtain ⟨q0, q1, fq0, fq1, zq, _, _⟩ := HL2.out.c2 0 rfl
    go_region_law (first
      | (refine step_append_S _ rfl (.tmp 34) (.tmp 42) 56 rfl 42 i0 _ 7 72 Tryd.underlying56 hi0 iz0 iz1 iz2 rfl (by decide) (.slice (some ⟨gr, 0, none⟩) k k) k ((entCells es).take (k * 7)) (by first | rfl | simp [Act.eval, Act.put]) (HLC.out.rowSAt 1 rfl) sa (es.length - (k + 1)) (qc - (k + 1)) ((entCells es).drop ((k + 1) * 7)) (by first | rfl | simp [Act.eval, Act.put]) HLN.out (rowS_src (lo := k + 1) (HL2.out.drew.rowSAt 1 rfl) (by rw [iz1]) HSA.out) (fun u hu => ents_one es u (List.mem_of_mem_drop hu)) (by simp only [maxLen]; omega) (by omega) ?_; intro a5 c5 w5 hown hgrow hat; have HL5 := Lib.hid (HLC.out.grownS 1 rfl hgrow hown hat); simp only [List.set_cons_succ, List.set_cons_zero] at HL5; clear hown hgrow hat q0 q1 fq0 fq1 zq; obtain ⟨q0, q1, fq0, fq1, zq, _, _⟩ := HL5.out.c2 0 rfl))
    all_goals
      have HLE : Hid (k + (es.length - (k + 1)) = (es.eraseIdx k).length ∧ (entCells es).take (k * 7) ++ (entCells es).drop ((k + 1) * 7) = entCells (es.eraseIdx k)) := by
        refine ⟨?_, ?_⟩
        · rw [List.length_eraseIdx_of_lt hk]; omega
        · rw [List.eraseIdx_eq_take_drop_succ, entCells_append, entCells_take, entCells_drop]
      have HL6 := Lib.hid (HL5.out.set 0 rfl 1 (.slice a5 (k + (es.length - (k + 1))) c5))
      simp only [List.set_cons_succ, List.set_cons_zero, List.setIfInBounds_toArray] at HL6
      rw [HLE.out.2, HLE.out.1] at HL6
      rw [HLE.out.1]
      refine Hid.out ?_
      obtain ⟨w6, hw6⟩ : ∃ w6, w5.setCell ⟨g, 1, none⟩ (.slice a5 (es.eraseIdx k).length c5) = w6 := ⟨_, rfl⟩
      rw [hw6] at HL6 ⊢
      refine Lib.hid ?_
      clear hw6 HL5 HLC HL2 q0 q1 fq0 fq1 zq hsl1 hsl2 hwk HLE
      obtain ⟨r0, r1, r2, r3, r4, r5, r6, ⟨f0, f1, f2, f3, f4, f5, f6⟩, zr, _, _⟩ := HL6.out.c7 2 rfl
      obtain ⟨y0, y1, y2, y3, y4, y5, y6, _, zy, _, _⟩ := HL6.out.c7 3 rfl
      have n1 := HL6.out.ne 2 3 rfl rfl (by decide)
      have n2 := Ne.symm n1
      go_wp2
      have HL7 := Lib.hid (HL6.out.setEnt 2 rfl x.sync x.thread x.branch x.flag x.v.kind x.v.num (.slice x.v.addr x.v.parts.length x.v.cap))
      simp only [List.set_cons_zero, List.set_cons_succ] at HL7
      obtain ⟨s0, s1, s2, s3, s4, s5, s6, _⟩ := HL7.out.c7 2 rfl
      refine bodyPost_ret (v := .tuple #[x.val, .bool true]) (by simp [results, Tryd.results36, go_sem, s0, s1, s2, s3, s4, s5, s6, ent_eq]) rfl ?_
      exact .inl ⟨x, by omega, HXJ.out, rfl, Led.shutQ (l := []) (HL7.out.sel [0, 1] rfl (by decide))⟩
end Go.Proofs.YtihmbgdkllmkaaaDoor

/-
  Layer 13: index, Find, Next (queue.go).
-/
namespace Go.Proofs.YtihmbgdkllmkaaaDoor
open Go.RowKit Go.Shelf
set_option maxRecDepth 100000
set_option linter.unusedVariables false
set_option linter.unusedSimpArgs false

/-- The index of the first entry, from an index on, for which P holds, or -1. -/
def IdxR (P : PE → Prop) (es : List PE) (fr r : Int) : Prop :=
  (r = -1 ∧ ∀ j (h : j < es.length), fr ≤ (j : Int) → ¬ P es[j]) ∨ ∃ j, ∃ h : j < es.length, r = (j : Int) ∧ fr ≤ (j : Int) ∧ P es[j] ∧ ∀ i (h' : i < es.length), fr ≤ (i : Int) → i < j → ¬ P es[i]
theorem IdxR.unique {P : PE → Prop} {es : List PE} {fr r r' : Int} (h : IdxR P es fr r) (h' : IdxR P es fr r') : r = r' := by
  rcases h with ⟨h1, h2⟩ | ⟨j, hj, h1, h2, h3, h4⟩
  · rcases h' with ⟨h1', _⟩ | ⟨j', hj', h1', h2', h3', _⟩
    · omega
    · exact absurd h3' (h2 j' hj' h2')
  · rcases h' with ⟨h1', h2'⟩ | ⟨j', hj', h1', h2', h3', h4'⟩
    · exact absurd h3 (h2' j hj h2)
    · by_cases hlt : j < j'
      · exact absurd h3 (h4' j hj h2 hlt)
      · by_cases hlt2 : j' < j
        · exact absurd h3' (h4 j' hj' h2' hlt2)
        · omega
def IdxTold (P : PE → Prop) (es : List PE) (fr : Int) (w : World) (e : Ending) (w' : World) : Prop := ∃ r, e = .returned (.int .i64 r) ∧ IdxR P es fr r ∧ Touch [] w w'

/-- Next: an index, whether there is one. -/
def NextR (P : PE → Prop) (es : List PE) (fr k : Int) (c : Bool) : Prop := ∃ r, IdxR P es fr r ∧ k = max r 0 ∧ (c = true ↔ 0 ≤ r)
theorem NextR.unique {P : PE → Prop} {es : List PE} {fr k k' : Int} {c c' : Bool} (h : NextR P es fr k c) (h' : NextR P es fr k' c') : k = k' ∧ c = c' := by
  obtain ⟨r, h1, h2, h3⟩ := h
  obtain ⟨r', h1', h2', h3'⟩ := h'
  obtain rfl := h1.unique h1'
  refine ⟨by omega, ?_⟩
  cases c <;> cases c' <;> simp_all <;> omega
def NextTold (P : PE → Prop) (es : List PE) (fr : Int) (w : World) (e : Ending) (w' : World) : Prop := ∃ k c, e = .returned (.tuple #[.int .i64 k, .bool c]) ∧ NextR P es fr k c ∧ Touch [] w w'
end Go.Proofs.YtihmbgdkllmkaaaDoor

/-
  The ledger: what a callee made beside what was there. No program is in sight.
-/
namespace Go.Proofs.YtihmbgdkllmkaaaDoor
open Go.RowKit
set_option linter.unusedVariables false
section
variable {T : List Nat} {w0 w w' : World} {l l' : List Thing}
theorem Led.reindex (h : Led T w0 w l) (σ : Nat → Nat) (h1 : ∀ i t, l'[i]? = some t → l[σ i]? = some t) (h2 : ∀ i j, i < l'.length → j < l'.length → σ i = σ j → i = j) : Led T w0 w l' := by
  obtain ⟨hb, F, g1, g2⟩ := h
  refine ⟨hb, fun i => F (σ i), fun i t hi => g1 _ t (h1 i t hi), fun i j hi hj hij => ?_⟩
  have e1 := h1 i _ (List.getElem?_eq_getElem hi)
  have e2 := h1 j _ (List.getElem?_eq_getElem hj)
  exact g2 _ _ (List.getElem?_eq_some_iff.1 e1).1 (List.getElem?_eq_some_iff.1 e2).1 (fun e => hij (h2 i j hi hj e))
theorem Led.swapEnd {a b c : List Thing} (h : Led T w0 w (a ++ b ++ c)) : Led T w0 w (a ++ c ++ b) := by
  refine h.reindex (fun i => if i < a.length then i else if i < a.length + c.length then i + b.length else i - c.length) ?_ ?_
  · intro i t hi
    have hl := (List.getElem?_eq_some_iff.1 hi).1
    simp only [List.length_append] at hl
    by_cases h1 : i < a.length
    · rw [if_pos h1]
      rw [List.append_assoc, List.getElem?_append_left h1] at hi
      rw [List.append_assoc, List.getElem?_append_left h1]
      exact hi
    · rw [if_neg h1]
      rw [List.append_assoc, List.getElem?_append_right (by omega)] at hi
      by_cases h2 : i < a.length + c.length
      · rw [if_pos h2]
        rw [List.getElem?_append_left (by omega)] at hi
        rw [List.append_assoc, List.getElem?_append_right (by omega), List.getElem?_append_right (by omega)]
        rw [show i + b.length - a.length - b.length = i - a.length from by omega]
        exact hi
      · rw [if_neg h2]
        rw [List.getElem?_append_right (by omega)] at hi
        rw [List.append_assoc, List.getElem?_append_right (by omega), List.getElem?_append_left (by omega)]
        rw [show i - c.length - a.length = i - a.length - c.length from by omega]
        exact hi
  · intro i j hi hj
    simp only [List.length_append] at hi hj
    repeat' split
    all_goals omega
theorem Led.join {m : List Thing} (h : Led T w0 w l) (h' : Led [] w w' m) : Led T w0 w' (l ++ m) := by
  have hz := h.size
  obtain ⟨hb, F, g1, g2⟩ := h
  obtain ⟨hb', F', g1', g2'⟩ := h'
  have hnew : ∀ j, j < m.length → ∀ x ∈ F' j, w.heap.size ≤ x := fun j hj x hx => ((g1' j _ (List.getElem?_eq_getElem hj)).2 x hx).elim (fun h => by simp at h) id
  have hold : ∀ j, j < l.length → ∀ x ∈ F j, x < w.heap.size := fun j hj x hx => l[j].lt (g1 j l[j] (List.getElem?_eq_getElem hj)).1 x hx
  refine ⟨hb.trans hb' (by simp), fun j => if j < l.length then F j else F' (j - l.length), ?_, ?_⟩
  · intro j u hj
    by_cases hjl : j < l.length
    · rw [List.getElem?_append_left hjl] at hj
      simp only [if_pos hjl]
      exact ⟨u.keep (g1 j u hj).1 (fun k hk => hb'.block k (u.lt (g1 j u hj).1 k hk) (by simp)), (g1 j u hj).2⟩
    · rw [List.getElem?_append_right (by omega)] at hj
      simp only [if_neg hjl]
      have hj' := (List.getElem?_eq_some_iff.1 hj).1
      exact ⟨(g1' _ u hj).1, fun k hk => .inr (by have := hnew _ hj' k hk; omega)⟩
  · intro i j hi hj hij x hx hx2
    dsimp only at hx hx2
    simp only [List.length_append] at hi hj
    by_cases h1 : i < l.length
    · rw [if_pos h1] at hx
      by_cases h2 : j < l.length
      · rw [if_pos h2] at hx2; exact g2 i j h1 h2 hij x hx hx2
      · rw [if_neg h2] at hx2
        have := hnew _ (by omega) x hx2
        have := hold i h1 x hx
        omega
    · rw [if_neg h1] at hx
      by_cases h2 : j < l.length
      · rw [if_pos h2] at hx2
        have := hnew _ (by omega) x hx
        have := hold j h2 x hx2
        omega
      · rw [if_neg h2] at hx2
        exact g2' _ _ (by omega) (by omega) (by omega) x hx hx2
end
end Go.Proofs.YtihmbgdkllmkaaaDoor

/-
  Layer 13: copies, Copy, All (queue.go).
-/
namespace Go.Proofs.YtihmbgdkllmkaaaDoor
open Go.RowKit Go.Shelf
set_option maxRecDepth 100000
set_option linter.unusedVariables false
set_option linter.unusedSimpArgs false

def entZ (m : Nat) : Array Value := madeCells #[.int .i64 0, .int .i64 0, .int .i64 0, .int .i64 0, .int .i64 0, .int .i64 0, .slice none 0 0] (m * 7)
theorem entZ_size (m : Nat) : (entZ m).size = m * 7 := by simp [entZ, madeCells]
theorem made_ents (m : Nat) (hm : m ≤ 1048576) (W : World) : (Instr.makeSlice 56 (.int .i64 0) (.int .i64 (m : Int))).run Tryd.prog W =
    .ok (.slice (some ⟨W.heap.size, 0, none⟩) 0 m) (W.alloc (.cells (entZ m) 42)) := by
  obtain ⟨i0, hi, iz0, iz1, iz2⟩ := info_parts info_ent
  have hr := run_make (P := Tryd.prog) W 56 42 i0 _ Tryd.underlying56 hi iz0 .i64 .i64 0 m (by omega) (by omega) (by rw [iz2]; omega) (by omega)
  rw [iz1] at hr
  simpa [Value.cells, entZ] using hr
theorem Led.makeEnts {T : List Nat} {w0 w : World} {l : List Thing} (h : Led T w0 w l) (m : Nat) (hm : m ≤ 1048576) {w' : World} (e : w.alloc (.cells (entZ m) 42) = w') : Led T w0 w' (l ++ [rowT 42 7 (.slice (some ⟨w.heap.size, 0, none⟩) 0 m) 0 []]) :=
  e ▸ h.new (t' := rowT 42 7 (.slice (some ⟨w.heap.size, 0, none⟩) 0 m) 0 []) ⟨rfl, by simp, .inr ⟨w.heap.size, m, entZ m, rfl, heap_alloc_new w _, Nat.zero_le _, by simp only [maxLen]; omega, by rw [entZ_size]; exact Nat.le_refl _, by simp⟩⟩ ⟨(Touch.refl [] w).alloc _, fun k hk => .inr (by simp [sb, Value.ownBlock] at hk; omega)⟩

/-- Copies of entries. -/
def Copied (es : List ME) (w : World) (e : Ending) (w' : World) : Prop := ∃ a cap ys, e = .returned (.slice a es.length cap) ∧ ys.map ME.plain = es.map ME.plain ∧ Led [] w w' [rowT 42 7 (.slice a es.length cap) es.length (entCells ys), valsT (ys.map ME.v)]
set_option maxHeartbeats 4000000 in
theorem copies_q (w : World) (a : Option Addr) (cap : Nat) (es : List ME) (he : EntsAt w a es) (hin : ∀ e ∈ es, e.v.In w ∧ e.v.nodes ≤ 256) (hlen : es.length ≤ 1048576) : Calls Tryd.prog 78 #[.slice a es.length cap] w (Copied es w) := by
  have HE := Lib.hid he
  have HIN := Lib.hid hin
  clear he hin
  have hmk := made_ents es.length hlen
  obtain ⟨i0, hi0, iz0, iz1, iz2⟩ := info_parts info_ent
  go_enter Tryd.func78, Tryd.ntmps78
  go_wp2_with fail
  refine wp_name ?_
  intro w1 hw1
  have HL1 := Lib.hid ((Led.nil' w).makeEnts es.length hlen hw1).vals0
  simp only [List.nil_append, List.cons_append] at HL1
  clear hw1
  go_loopw [3, 11] (fun x i wr => ∃ (j : Nat) (ys : List ME) (ra : Option Addr) (rc : Nat), j ≤ es.length ∧ i = .int .i64 (j : Int) ∧ x = .slice ra j rc ∧ ys.length = j ∧ Hid (ys.map ME.plain = (es.take j).map ME.plain) ∧
    Hid (Led [] w wr [rowT 42 7 (.slice ra j rc) j (entCells ys), valsT (ys.map ME.v)])) (fun _ i _ => es.length - (intOf i).toNat)
  case atStart => exact ⟨0, [], _, _, Nat.zero_le _, rfl, rfl, rfl, by unfold Hid; simp, HL1⟩
  case round =>
    obtain ⟨j, ys, ra, rc, hj, rfl, rfl, hyl, HY, HK⟩ := hrel
    clear HL1
    have hj0 : (0 : Int) ≤ (j : Int) := by omega
    by_cases hjl : j < es.length
    · have hjl' : (j : Int) < (es.length : Int) := by omega
      obtain ⟨b, o, rfl, hb, p0, p1, p2, p3, p4, p5, p6⟩ := (HE.out.touch HK.out.tch) j hjl
      have HI := Lib.hid (HIN.out _ (List.getElem_mem hjl))
      have HTS : Hid ((es.take (j + 1)).map ME.plain = (es.take j).map ME.plain ++ [es[j].plain]) := by
        unfold Hid
        rw [List.take_add_one, List.getElem?_eq_getElem hjl, Option.toList_some, List.map_append]
        rfl
      generalize es[j] = x at p0 p1 p2 p3 p4 p5 p6 HI HTS
      go_wp2_with fail
      refine wp_calls_name ?_
      intro w2 hw2
      have HT2 : Hid (Touch [] wr w2) := hw2 ▸ (Touch.refl [] wr).alloc _
      have HL2 := Lib.hid (HK.out.touch HT2.out)
      clear hw2 p0 p1 p2 p3 p4 p5 p6 hb
      refine (copyEntry_q x w2 (HI.out.1.touch0 (HK.out.tch.trans' HT2.out)) HI.out.2).mono ?_
      rintro e w4 ⟨x', rfl, hpl, hxin, hnew, ht⟩
      have HL4 := Lib.hid (HL2.out.valsNew (vs := [x'.v]) ht (by simpa using hxin) (by simpa using hnew))
      simp only [List.nil_append, List.cons_append] at HL4
      have HPL := Lib.hid hpl
      clear hpl hxin hnew ht HL2
      simp only [ent_eq]
      go_wp2_with (at_builtin; go_must (refine wpList_append_S _ rfl (.tmp 15) (.tmp 18) 56 rfl 42 i0 _ 7 72 Tryd.underlying56 hi0 iz0 iz1 iz2 rfl (by decide) (.slice ra j rc) j (entCells ys) rfl ((HL4.out.alloc_ _).rowSAt 0 rfl) (some ⟨w4.heap.size, 0, none⟩) 1 1 x'.cells rfl rfl (.inr ⟨_, rfl, World.news_of_block (heap_alloc_new w4 _)⟩) (by have := ents_one [x']; simpa [entCells] using this) (by simp only [maxLen]; omega) (by omega) ?_); intro a5 c5 w5 hown hgrow hat; refine Hid.out ?_)
      have HL5 : Hid (Led [] w w5 [rowT 42 7 (.slice a5 (j + 1) c5) (j + 1) (entCells (ys ++ [x'])), valsT ((ys ++ [x']).map ME.v)]) := by
        have h := (HL4.out.alloc_ _).grownS 0 rfl hgrow hown hat
        simp only [List.set_cons_succ, List.set_cons_zero] at h
        rw [entCells_append, List.map_append]
        exact Led.valsJoin (l := [_]) h
      clear hown hgrow hat HL4
      refine Lib.hid ?_
      go_wp2
      go_roundw
      case rel => exact ⟨j + 1, ys ++ [x'], a5, c5, by omega, by go_num, rfl, by simp [hyl], by unfold Hid; rw [List.map_append, HY.out, HTS.out, ← HPL.out]; rfl, HL5⟩
      case measure => simp [intOf]; omega
    · have hjl' : ¬ (j : Int) < (es.length : Int) := by omega
      obtain rfl : j = es.length := by omega
      go_wp2
      go_ret
      exact ⟨ra, rc, ys, rfl, by have := HY.out; rwa [List.take_length] at this, HK.out⟩

theorem build_list2 (v : Option Addr) (n c : Nat) (w : World) (h : Tryd.prog.built 133 [(0, .bool true), (1, .slice v n c)] = some #[.bool true, .slice v n c]) : (Instr.build 133 #[(0, .bool true), (1, .slice v n c)]).run Tryd.prog w = .ok (.agg #[.bool true, .slice v n c]) w := run_build w 133 _ _ h
/-- Copy: another queue. -/
def CopiedQ (es : List ME) (w : World) (e : Ending) (w' : World) : Prop := ∃ g ys, e = .returned (.pointer (some ⟨g, 0, none⟩)) ∧ ys.map ME.plain = es.map ME.plain ∧ Led [] w w' [queueT g ys, valsT (ys.map ME.v)]
set_option maxHeartbeats 1000000 in
theorem Copy_q (w : World) (g : Nat) (es : List ME) (h : QAt w g es) (hin : ∀ e ∈ es, e.v.In w ∧ e.v.nodes ≤ 256) (hlen : es.length ≤ 1048576) : Calls Tryd.prog 60 #[.pointer (some ⟨g, 0, none⟩)] w (CopiedQ es w) := by
  obtain ⟨a, cap, hb, hc1, hc2, hr⟩ := h
  have HC := Lib.hid (copies_q w a cap es (ents_of_rowS hr) hin hlen)
  have q0 := hb.cell 0
  have q1 := hb.cell 1
  simp at q0 q1
  clear hb hr hin
  go_enter Tryd.func60, Tryd.ntmps60
  go_wp2_with fail
  refine (none_no g w q0).mono ?_
  rintro e w' ⟨rfl, rfl⟩
  go_wp2_with fail
  refine HC.out.mono ?_
  rintro e w2 ⟨a2, c2, ys, rfl, hpl, hL⟩
  have HL := Lib.hid hL
  have HPL := Lib.hid hpl
  clear hL hpl
  have hb1 : ∀ W, (Instr.build 133 #[(0, .bool true), (1, .slice a2 es.length c2)]).run Tryd.prog W = .ok (.agg #[.bool true, .slice a2 es.length c2]) W := fun W => build_list2 _ _ _ W (by kernel_rfl)
  have hb2 : ∀ W, (Instr.build 135 #[(0, .agg #[.bool true, .slice a2 es.length c2])]).run Tryd.prog W = .ok (.agg #[.bool true, .slice a2 es.length c2]) W := fun W => build_queue _ _ W (by kernel_rfl)
  go_wp2
  go_ret
  refine ⟨w2.heap.size, ys, rfl, HPL.out, ?_⟩
  have hyl : ys.length = es.length := by have := congrArg List.length HPL.out; simpa using this
  have h := HL.out.alloc 135 #[.bool true, .slice a2 es.length c2]
  have h2 := h.sel [2, 0, 1] (l' := [_, _, _]) rfl (by decide)
  exact h2.shutP hyl

/-- What All makes: a box with a slice of copies. -/
def allT (bx : Nat) (v : Value) (ys : List ME) : Thing where
  holds w fp := fp = bx :: (sb v ++ MT.blocksAll (ys.map ME.v)) ∧ Blk w bx 56 #[v] ∧ rowS w 42 7 v ys.length (entCells ys) ∧ ∀ y ∈ ys, y.v.In w
  keep := fun ⟨h1, h2, h3, h4⟩ he => ⟨h1, h2.keep (he bx (by simp [h1])), rowS_keep h3 (fun k hk => he k (by simp [h1, hk])), fun y hy => (h4 y hy).keep (fun k hk => he k (by
    rw [h1]
    refine List.mem_cons_of_mem _ (List.mem_append_right _ (MT.blocksAll_mem.2 ⟨y.v, List.mem_map.2 ⟨y, hy, rfl⟩, hk⟩))))⟩
  lt := fun ⟨h1, h2, h3, h4⟩ k hk => by
    subst h1
    rcases List.mem_cons.1 hk with rfl | hk
    · exact h2.lt
    · rcases List.mem_append.1 hk with hk | hk
      · exact rowS_lt h3 k hk
      · obtain ⟨t, ht, hk⟩ := MT.blocksAll_mem.1 hk
        obtain ⟨y, hy, rfl⟩ := List.mem_map.1 ht
        exact (h4 y hy).lt k hk
def copiesT (v : Value) (ys : List ME) : Thing where
  holds w fp := fp = sb v ++ MT.blocksAll (ys.map ME.v) ∧ rowS w 42 7 v ys.length (entCells ys) ∧ ∀ t ∈ ys.map ME.v, t.In w
  keep := fun ⟨a, b, c⟩ he => ⟨a, rowS_keep b (fun k hk => he k (by simp [a, hk])), fun t ht => (c t ht).keep (fun k hk => he k (by rw [a]; exact List.mem_append_right _ (MT.blocksAll_mem.2 ⟨t, ht, hk⟩)))⟩
  lt := fun ⟨a, b, c⟩ k hk => by
    subst a
    rcases List.mem_append.1 hk with hk | hk
    · exact rowS_lt b k hk
    · obtain ⟨t, ht, hk⟩ := MT.blocksAll_mem.1 hk
      exact (c t ht).lt k hk
theorem Led.shutAll {T : List Nat} {w0 w : World} {l : List Thing} {bx n : Nat} {v : Value} {ys : List ME} (hn : ys.length = n) (h : Led T w0 w (l ++ [Proofs.YtihmbgdkllmkaaaDoor.box bx 56 #[v], rowT 42 7 v n (entCells ys), valsT (ys.map ME.v)])) : Led T w0 w (l ++ [allT bx v ys]) := by
  subst hn
  have h1 : Led T w0 w ((l ++ [Proofs.YtihmbgdkllmkaaaDoor.box bx 56 #[v]]) ++ [rowT 42 7 v ys.length (entCells ys), valsT (ys.map ME.v)]) := by simpa using h
  have h2 := h1.merge (t12 := copiesT v ys) (fun f1 f2 ⟨a1, a2⟩ ⟨b1, b2⟩ => ⟨by rw [a1, b1], a2, b2⟩)
  have h3 : Led T w0 w (l ++ [Proofs.YtihmbgdkllmkaaaDoor.box bx 56 #[v], copiesT v ys]) := by simpa using h2
  exact h3.merge (fun f1 f2 ⟨a1, a2⟩ ⟨b1, b2, b3⟩ => ⟨by rw [a1, b1]; rfl, a2, b2, fun y hy => b3 _ (List.mem_map.2 ⟨y, hy, rfl⟩)⟩)
/-- All: an iterator over copies. -/
def AllTold (es : List ME) (w : World) (e : Ending) (w' : World) : Prop := ∃ bx a cap ys, e = .returned (.func (.func 79) #[] #[.pointer (some ⟨bx, 0, none⟩)]) ∧ ys.map ME.plain = es.map ME.plain ∧ Led [] w w' [allT bx (.slice a ys.length cap) ys]
set_option maxHeartbeats 1000000 in
theorem All_q (w : World) (g : Nat) (es : List ME) (h : QAt w g es) (hin : ∀ e ∈ es, e.v.In w ∧ e.v.nodes ≤ 256) (hlen : es.length ≤ 1048576) : Calls Tryd.prog 59 #[.pointer (some ⟨g, 0, none⟩)] w (AllTold es w) := by
  have HQA := Lib.hid h
  have HIN := Lib.hid hin
  clear h hin
  go_enter Tryd.func59, Tryd.ntmps59
  go_wp2_with fail
  refine wp_calls_name ?_
  intro w1 hw1
  have HL1 := Lib.hid ((Led.nil' w).al1 hw1)
  simp only [List.nil_append, List.cons_append] at HL1
  obtain ⟨b3, hb3⟩ : ∃ b, w.heap.size = b := ⟨_, rfl⟩
  rw [hb3] at HL1 ⊢
  clear hb3 hw1
  obtain ⟨a, cap, hb, hc1, hc2, hr⟩ := HQA.out.touch HL1.out.tch
  have HC := Lib.hid (copies_q w1 a cap es (ents_of_rowS hr) (fun e he => ⟨(HIN.out e he).1.touch0 HL1.out.tch, (HIN.out e he).2⟩) hlen)
  have q0 := hb.cell 0
  have q1 := hb.cell 1
  simp at q0 q1
  clear hb hr
  refine (none_no g w1 q0).mono ?_
  rintro e w' ⟨rfl, rfl⟩
  go_wp2_with fail
  refine HC.out.mono ?_
  rintro e w2 ⟨a2, c2, ys, rfl, hpl, hL⟩
  have HPL := Lib.hid hpl
  have HL2 : Hid (Led [] w w2 [box b3 56 #[.slice none 0 0], rowT 42 7 (.slice a2 es.length c2) es.length (entCells ys), valsT (ys.map ME.v)]) := HL1.out.join hL
  clear hL hpl
  obtain ⟨x0, fx, zx, _, _⟩ := HL2.out.c1 0 rfl
  go_wp2
  go_ret
  refine ⟨b3, a2, c2, ys, rfl, HPL.out, ?_⟩
  have hyl : ys.length = es.length := by have := congrArg List.length HPL.out; simpa using this
  have h := HL2.out.set 0 rfl 0 (.slice a2 es.length c2)
  simp only [List.set_cons_zero, List.setIfInBounds_toArray] at h
  have h2 := Led.shutAll (l := []) hyl h
  rw [hyl]
  exact h2
end Go.Proofs.YtihmbgdkllmkaaaDoor

/-
  A range over a function, with the ledger between the rounds.
-/
namespace Go.Proofs.YtihmbgdkllmkaaaDoor
open Go.RowKit Go.Shelf
set_option linter.unusedVariables false

/-- A block that is known whole, whatever it is. -/
def exact1 (b : Nat) (o : Obj) : Thing where
  holds w fp := fp = [b] ∧ w.heap[b]? = some o
  keep := fun ⟨h1, h2⟩ he => ⟨h1, (he b (by simp [h1])).trans h2⟩
  lt := fun ⟨h1, h2⟩ k hk => by subst h1; simp at hk; subst hk; exact (Array.getElem?_eq_some_iff.1 h2).1
/-- The two blocks of a loop. -/
def marks (D : Nat) (o : Obj) : List Thing := [mark D, exact1 (D + 1) o]
def marks1 (D : Nat) : List Thing := [mark D, some1 (D + 1)]

section
variable {T : List Nat} {w0 w w' : World} {l : List Thing} {D : Nat}
theorem Led.sub_end {m : List Thing} (h : Led T w0 w (l ++ m)) : Led T w0 w l := by
  obtain ⟨hb, F, h1, h2⟩ := h
  exact ⟨hb, F, fun i t hi => h1 i t (by rw [List.getElem?_append_left (List.getElem?_eq_some_iff.1 hi).1]; exact hi), fun i j hi hj => h2 i j (by simp; omega) (by simp; omega)⟩
theorem Led.exact_of_some (h : Led T w0 w (l ++ marks1 D)) : ∃ o, Led T w0 w (l ++ marks D o) := by
  have hi : (l ++ marks1 D)[l.length + 1]? = some (some1 (D + 1)) := by simp [marks1]
  obtain ⟨f, ⟨hf, hb⟩, _, hs⟩ := h.step (l.length + 1) hi
  subst hf
  refine ⟨w.heap[D + 1], ?_⟩
  have := hs w (exact1 (D + 1) w.heap[D + 1]) [D + 1] ⟨rfl, Array.getElem?_eq_getElem hb⟩ (Went.refl _ _)
  simpa [marks1, marks, List.set_append] using this
theorem Led.some_of_exact {o : Obj} (h : Led T w0 w (l ++ marks D o)) : Led T w0 w (l ++ marks1 D) := by
  have hi : (l ++ marks D o)[l.length + 1]? = some (exact1 (D + 1) o) := by simp [marks]
  obtain ⟨f, ⟨hf, hb⟩, _, hs⟩ := h.step (l.length + 1) hi
  subst hf
  have := hs w (some1 (D + 1)) [D + 1] ⟨rfl, (Array.getElem?_eq_some_iff.1 hb).1⟩ (Went.refl _ _)
  simpa [marks1, marks, List.set_append] using this
theorem Led.put_exact {o o' : Obj} {m : List Thing} (h : Led T w0 w (l ++ marks D o ++ m)) : Led T w0 (w.putObj (D + 1) o') (l ++ marks D o' ++ m) := by
  have hi : (l ++ marks D o ++ m)[l.length + 1]? = some (exact1 (D + 1) o) := by simp [marks]
  obtain ⟨f, ⟨hf, hb⟩, _, hs⟩ := h.step (l.length + 1) hi
  subst hf
  have := hs (w.putObj (D + 1) o') (exact1 (D + 1) o') [D + 1] ⟨rfl, World.putObj_heap_same (Array.getElem?_eq_some_iff.1 hb).1⟩ ⟨(Touch.refl _ w).putObj (.inr (by simp)) o', fun k hk => .inl hk⟩
  simpa [marks1, marks, List.set_append] using this
theorem Led.put_some {o' : Obj} (h : Led T w0 w (l ++ marks1 D)) : Led T w0 (w.putObj (D + 1) o') (l ++ marks1 D) := by
  obtain ⟨o, ho⟩ := h.exact_of_some
  have := Led.put_exact (m := []) (o' := o') (by simpa using ho)
  simp only [List.append_nil] at this
  exact this.some_of_exact
theorem Led.at_mark {o : Obj} {m : List Thing} (h : Led T w0 w (l ++ marks D o ++ m)) : w.heap[D]? = some (.deferred (some [])) ∧ w.heap[D + 1]? = some o := by
  have h1 : (l ++ marks D o ++ m)[l.length]? = some (Proofs.YtihmbgdkllmkaaaDoor.mark D) := by simp [marks]
  have h2 : (l ++ marks D o ++ m)[l.length + 1]? = some (exact1 (D + 1) o) := by simp [marks]
  obtain ⟨_, ⟨_, h3⟩, _⟩ := h.get _ h2
  exact ⟨h.mark _ h1, h3⟩
theorem Led.kept {l' : List Thing} {o : Obj} {m m' : List Thing} (h : Led T w0 w (l ++ marks D o ++ m)) (h' : Led T w0 w' (l' ++ marks D o ++ m')) : Kept D w w' := by
  obtain ⟨a, b⟩ := h.at_mark
  obtain ⟨c, d⟩ := h'.at_mark
  exact ⟨c.trans a.symm, d.trans b.symm⟩
end

/-- What a round's body owes: the ledger behind it. X c l': it may leave by the jump c with the things l'. -/
def bodyL (T : List Nat) (w0 : World) (D : Nat) (o : Obj) (l' : List Thing) (X : Code → List Thing → Prop) : Exit → Act → World → Prop
  | .normal, _, W => ∃ m, Led T w0 W (l' ++ marks D o ++ m)
  | .ret, _, W => ∃ lx m, X .ret lx ∧ Led T w0 W (lx ++ marks D o ++ m)
  | .exit id, _, W => ∃ lx m, X (.exit id) lx ∧ Led T w0 W (lx ++ marks D o ++ m)
  | .goto t, _, W => ∃ lx m, X (.goto t) lx ∧ Led T w0 W (lx ++ marks D o ++ m)
  | .panic _, _, _ => False
  | .outgrown, _, _ => False

theorem wp_rangeL {β : Type} {P : Program} {n : Nat} {g : Operand} {ps : Array Tmp} {assign body : Code} {Q : Exit → Act → World → Prop} {a : Act} {w w0 : World} {T : List Nat}
    {gf : Nat} {lb : Array Value} (hg : a.eval g = .func (.func gf) #[] lb) (eg : ∀ args w, (callFunc gf args).run P w = .ok (.enter gf args) w)
    (R : β → List Thing) (X : Code → List Thing → Prop) (Fin : β → Prop) (arg : β → Array Value → β → Prop)
    (hps : ∀ b xs b', arg b xs b' → xs.size = ps.size) (b0 : β) (h0 : Led T w0 w (R b0))
    (hround : ∀ b xs b' W o0, arg b xs b' → Led T w0 W (R b ++ marks w.heap.size o0) →
      assign.wpIn (Fence.wide.inRound (w.heap.size + 1)) (n - 1 - 1) P (Exit.then (fun a1 W1 => ∃ m, Led T w0 W1 (R b ++ marks w.heap.size o0 ++ m) ∧
        ∀ W2 o, Led T w0 W2 (R b ++ marks w.heap.size o ++ m) → body.wpIn (Fence.wide.inRound (w.heap.size + 1)) (n - 1 - 1) P (bodyL T w0 w.heap.size o (R b') X) a1 W2) (fun _ _ _ => False))
        { tmps := (ps.zip xs).foldl (fun t (p, v) => t.setIfInBounds p v) a.tmps, defers := [] } W)
    (hiter : ∀ (J' : β → World → Prop) (Jx' : World → Prop), (∀ b W, J' b W → Led T w0 W (R b ++ marks1 w.heap.size)) →
      (∀ b W b' W', J' b W → Led T w0 W' (R b' ++ marks1 w.heap.size) → Kept w.heap.size W W' → J' b' W') →
      (∀ b xs b' W, arg b xs b' → J' b W → YieldAt Fence.wide (n - 1 - 1) P (w.heap.size + 1) xs W (Told (J' b') Jx')) →
      ∀ W, J' b0 W → CallsIn Fence.wide (n - 1) P gf (#[.func (.yield (w.heap.size + 1)) #[] #[]] ++ lb) W (IterEnd Fin J' Jx'))
    (hdone : ∀ b W, Fin b → Led T w0 W (R b ++ marks1 w.heap.size) → Q .normal { a with defers := { target := .collected w.heap.size, args := #[] } :: a.defers } W)
    (hstop : ∀ c W lx, X c lx → Led T w0 W (lx ++ marks1 w.heap.size) → c.wpIn Fence.wide n P Q { a with defers := { target := .collected w.heap.size, args := #[] } :: a.defers } W) :
    (Code.rangeFunc g ps assign body).wpIn Fence.wide n P Q a w := by
  refine wp_range hg eg (fun b W => Led T w0 W (R b ++ marks1 w.heap.size)) (fun c W => ∃ lx, X c lx ∧ Led T w0 W (lx ++ marks1 w.heap.size)) Fin arg hps (fun b W o h => h.put_some) (fun c W o ⟨lx, hx, h⟩ => ⟨lx, hx, h.put_some⟩) b0 (fun o => h0.loop o) ?_ ?_
    (fun b W hF hj _ _ => hdone b W hF hj) (fun c W ⟨lx, hx, h⟩ _ _ => hstop c W lx hx h)
  · intro b xs b' W harg hj hlt
    obtain ⟨o0, ho⟩ := hj.exact_of_some
    refine wpIn_mono (hround b xs b' W o0 harg ho) ?_
    rintro ex a1 Wa hpost
    cases ex with
    | ret => exact hpost
    | exit id => exact hpost
    | goto t => exact hpost
    | panic ch => exact hpost
    | outgrown => exact hpost
    | normal =>
      obtain ⟨m, hL, hb⟩ := hpost
      refine ⟨Led.kept (m := []) (by simpa using ho) hL, fun o => ?_⟩
      have hL2 := hL.put_exact (o' := o)
      refine wpIn_mono (hb _ o hL2) ?_
      rintro e a3 W3 hp
      cases e with
      | normal => obtain ⟨m3, h3⟩ := hp; exact ⟨hL2.kept h3, h3.sub_end.some_of_exact⟩
      | ret => obtain ⟨lx, m3, hx, h3⟩ := hp; exact ⟨hL2.kept h3, lx, hx, h3.sub_end.some_of_exact⟩
      | exit id => obtain ⟨lx, m3, hx, h3⟩ := hp; exact ⟨hL2.kept h3, lx, hx, h3.sub_end.some_of_exact⟩
      | goto t => obtain ⟨lx, m3, hx, h3⟩ := hp; exact ⟨hL2.kept h3, lx, hx, h3.sub_end.some_of_exact⟩
      | panic ch => exact hp
      | outgrown => exact hp
  · intro J' Jx' hJ hC hCx hY W hW'
    exact hiter J' Jx' (fun b W h => (hJ b W h).1) (fun b W b' W' h1 h2 h3 => hC b W b' W' h1 h2 h3) hY W hW'

/-- A plain fact. -/
def fact (p : Prop) : Thing where
  holds _ fp := fp = [] ∧ p
  keep := fun h _ => h
  lt := fun ⟨h1, _⟩ k hk => by subst h1; simp at hk
section
variable {T : List Nat} {w0 w w' : World} {l : List Thing}
theorem Led.fact (h : Led T w0 w l) (i : Nat) {p : Prop} (hi : l[i]? = some (fact p)) : p := let ⟨_, h, _⟩ := h.get i hi; h.2
theorem Led.addFact (h : Led T w0 w l) {p : Prop} (hp : p) : Led T w0 w (l ++ [Proofs.YtihmbgdkllmkaaaDoor.fact p]) := h.new (t' := Proofs.YtihmbgdkllmkaaaDoor.fact p) (f' := []) ⟨rfl, hp⟩ ⟨Touch.refl _ _, by simp⟩
theorem Led.setFact (h : Led T w0 w l) (i : Nat) {p q : Prop} (hi : l[i]? = some (Proofs.YtihmbgdkllmkaaaDoor.fact p)) (hq : q) : Led T w0 w (l.set i (Proofs.YtihmbgdkllmkaaaDoor.fact q)) := by
  obtain ⟨f, ⟨hf, _⟩, _, hs⟩ := h.step i hi
  subst hf
  exact hs w (Proofs.YtihmbgdkllmkaaaDoor.fact q) [] ⟨rfl, hq⟩ (Went.refl _ _)
/-- A mark is come to. -/
theorem Led.shut (h : Led T w0 w l) (i : Nat) {D : Nat} (hi : l[i]? = some (Proofs.YtihmbgdkllmkaaaDoor.mark D)) : Led T w0 (w.putObj D (.deferred none)) (l.set i (some1 D)) := by
  obtain ⟨f, ⟨hf, hm⟩, _, hs⟩ := h.step i hi
  subst hf
  exact hs _ (some1 D) [D] ⟨rfl, by simpa using (Array.getElem?_eq_some_iff.1 hm).1⟩ ⟨(Touch.refl _ w).putObj (.inr (by simp)) _, fun k hk => .inl hk⟩
theorem Led.head2 {t1 t2 : Thing} {rest : List Thing} (h : Led T w0 w (t1 :: t2 :: rest)) : ∃ rest, Led T w0 w (t1 :: t2 :: rest) := ⟨_, h⟩
end
end Go.Proofs.YtihmbgdkllmkaaaDoor

/-
  Layer 13: the iterator that All makes (queue.go), and a loop over it.
-/
namespace Go.Proofs.YtihmbgdkllmkaaaDoor
open Go.RowKit Go.Shelf
set_option maxRecDepth 100000
set_option linter.unusedVariables false
set_option linter.unusedSimpArgs false
attribute [local go_sem] Oper.semAt_some

/-- What lies there of an iterator of All. -/
def AllAt (w : World) (bx : Nat) (a : Option Addr) (cap : Nat) (ys : List ME) : Prop := Blk w bx 56 #[.slice a ys.length cap] ∧ EntsAt w a ys ∧ ∀ y ∈ ys, y.v.In w
theorem Led.allAt {T : List Nat} {w0 w : World} {l : List Thing} {bx : Nat} {a : Option Addr} {cap : Nat} {ys : List ME} (h : Led T w0 w l) (i : Nat) (hi : l[i]? = some (allT bx (.slice a ys.length cap) ys)) : AllAt w bx a cap ys := by
  obtain ⟨f, ⟨_, h2, h3, h4⟩, _⟩ := h.get i hi
  exact ⟨h2, ents_of_rowS h3, h4⟩

theorem callsIn_name {F : Fence} {n : Nat} {P : Program} {f : FuncId} {args : Array Value} {Q : Ending → World → Prop} {W : World} (h : ∀ w2, W = w2 → CallsIn F n P f args w2 Q) : CallsIn F n P f args W Q := h W rfl
set_option maxHeartbeats 2000000 in
theorem all_iter (n l bx : Nat) (a : Option Addr) (cap : Nat) (ys : List ME) (hL : ys.length ≤ 1048576) (hnn : ∀ y ∈ ys, y.v.nodes ≤ 256) (J : Nat → World → Prop) (J1 : Nat → ME → World → Prop) (Jx : World → Prop)
    (hmem : ∀ k W, J k W → AllAt W bx a cap ys)
    (hmv : ∀ k W W' x, J k W → Touch [] W W' → x.v.In W' → (∀ b ∈ x.v.blocks, W.heap.size ≤ b) → (ys.map ME.plain)[k]? = some x.plain → J1 k x W')
    (hY : ∀ (k : Nat) (x : ME) (W : World), k < ys.length → J1 k x W → YieldAt Fence.wide (n - 1) Tryd.prog l #[.int .i64 (k : Int), x.val] W (Told (J (k + 1)) Jx))
    (W : World) (h0 : J 0 W) :
    CallsIn Fence.wide n Tryd.prog 79 #[.func (.yield l) #[] #[], .pointer (some ⟨bx, 0, none⟩)] W (IterEnd (fun k => k = ys.length) J Jx) := by
  refine callsIn_of_wp Tryd.func79 rfl trivial ?_ rfl
  simp only [Tryd.ntmps79, List.size_toArray, List.length_cons, List.length_nil, Nat.reduceAdd, Nat.reduceSub, Array.replicate_succ, Array.replicate_zero, List.push_toArray, List.append_toArray, List.nil_append, List.cons_append]
  have HM := Lib.hid hmem
  have HY := Lib.hid hY
  have HMV := Lib.hid hmv
  have HNN := Lib.hid hnn
  obtain ⟨b1, b2, b3⟩ := hmem 0 W h0
  have q1 := b1.cell 0
  simp at q1
  clear hmem hY hmv hnn b1 b2 b3
  gi_wp2
  gi_loopw [7] (fun i wr => ∃ k : Nat, i = .int .i64 (k : Int) ∧ J k wr ∧ k ≤ ys.length) (fun i _ => ys.length - (intOf i).toNat)
  case atStart => exact ⟨0, rfl, h0, Nat.zero_le _⟩
  case round =>
    obtain ⟨k, rfl, hj, hk⟩ := hrel
    have hk0 : (0 : Int) ≤ (k : Int) := by omega
    by_cases hlt : k < ys.length
    · have hlt' : (k : Int) < (ys.length : Int) := by omega
      obtain ⟨b1, b2, b3⟩ := HM.out _ _ hj
      obtain ⟨b, o, rfl, hb, p0, p1, p2, p3, p4, p5, p6⟩ := b2 k hlt
      have HI : Hid (ys[k].v.In wr ∧ ys[k].v.nodes ≤ 256) := ⟨b3 _ (List.getElem_mem hlt), HNN.out _ (List.getElem_mem hlt)⟩
      have HXJ : Hid ((ys.map ME.plain)[k]? = some ys[k].plain) := by unfold Hid; simp [hlt]
      generalize ys[k] = x at p0 p1 p2 p3 p4 p5 p6 HI HXJ
      have HJ := Lib.hid hj
      clear b1 b2 b3 hj
      gi_wp2_with fail
      refine ⟨trivial, nodepth, ?_⟩
      refine callsIn_name ?_
      intro w2 hw2
      have HT2 : Hid (Touch [] wr w2) := hw2 ▸ (Touch.refl [] wr).alloc _
      clear hw2 p0 p1 p2 p3 p4 p5 p6 hb
      refine (callsIn_wide.2 (copyEntry_q x w2 (HI.out.1.touch0 HT2.out) HI.out.2)).mono ?_
      rintro e w4 ⟨x', rfl, hpl, hxin, hnew, ht⟩
      have hy0 := HY.out k x' w4 hlt (HMV.out k wr w4 x' HJ.out (HT2.out.trans' ht) hxin (fun b hb => Nat.le_trans HT2.out.size (hnew b hb)) (by rw [hpl]; exact HXJ.out))
      clear hpl hxin hnew ht
      simp only [ent_eq] at hy0 ⊢
      obtain ⟨fn, tmps, assign, body, hy, hR⟩ := hy0
      have HR := Lib.hid hR
      clear hR
      gi_wp2_with fail
      refine ⟨nodepth, HR.out.mono ?_⟩
      rintro e W2 (⟨rfl, hj2⟩ | ⟨rfl, hj2⟩)
      · have HJ2 := Lib.hid hj2
        clear hj2 hy
        gi_wp2
        go_roundw
        case rel => exact ⟨k + 1, by go_num, HJ2.out, hlt⟩
        case measure => simp [intOf]; omega
      · have HJ2 := Lib.hid hj2
        clear hj2 hy
        gi_wp2
        refine bodyPost_ret (results_none rfl _ _ _) rfl ?_
        exact ⟨⟨_, rfl⟩, .inr HJ2.out⟩
    · obtain rfl : k = ys.length := by omega
      have hlt' : ¬ ((ys.length : Nat) : Int) < (ys.length : Int) := by omega
      have HJ := Lib.hid hj
      clear hj
      gi_wp2
      go_end0
      exact ⟨⟨_, rfl⟩, .inl ⟨_, rfl, HJ.out⟩⟩

/-- A loop over what All made: R k: what lies there when k entries have come. -/
theorem range_allL {n : Nat} {gop : Operand} {ps : Array Tmp} {assign body : Code} {Q : Exit → Act → World → Prop} {a : Act} {w w0 : World} {T : List Nat} {bx : Nat} {ra : Option Addr} {rc : Nat} {ys : List ME}
    (hg : a.eval gop = .func (.func 79) #[] #[.pointer (some ⟨bx, 0, none⟩)])
    (hps : ps.size = 2) (hL : ys.length ≤ 1048576) (hnn : ∀ y ∈ ys, y.v.nodes ≤ 256) (R : Nat → List Thing) (X : Code → List Thing → Prop) (i : Nat) (hi : ∀ k, (R k)[i]? = some (allT bx (.slice ra ys.length rc) ys)) (h0 : Led T w0 w (R 0))
    (hround : ∀ (k : Nat) (x : ME) (W : World) (o0 : Obj), k < ys.length → (ys.map ME.plain)[k]? = some x.plain → Led T w0 W (R k ++ [valsT [x.v]] ++ marks w.heap.size o0) →
      assign.wpIn (Fence.wide.inRound (w.heap.size + 1)) (n - 1 - 1) Tryd.prog (Exit.then (fun a1 W1 => ∃ m, Led T w0 W1 (R k ++ [valsT [x.v]] ++ marks w.heap.size o0 ++ m) ∧
        ∀ W2 o, Led T w0 W2 (R k ++ [valsT [x.v]] ++ marks w.heap.size o ++ m) → body.wpIn (Fence.wide.inRound (w.heap.size + 1)) (n - 1 - 1) Tryd.prog (bodyL T w0 w.heap.size o (R (k + 1)) X) a1 W2) (fun _ _ _ => False))
        { tmps := (ps.zip #[.int .i64 (k : Int), x.val]).foldl (fun t (p, v) => t.setIfInBounds p v) a.tmps, defers := [] } W)
    (hdone : ∀ W, Led T w0 W (R ys.length ++ marks1 w.heap.size) → Q .normal { a with defers := { target := .collected w.heap.size, args := #[] } :: a.defers } W)
    (hstop : ∀ c W lx, X c lx → Led T w0 W (lx ++ marks1 w.heap.size) → c.wpIn Fence.wide n Tryd.prog Q { a with defers := { target := .collected w.heap.size, args := #[] } :: a.defers } W) :
    (Code.rangeFunc gop ps assign body).wpIn Fence.wide n Tryd.prog Q a w := by
  refine wp_rangeL (β := Nat × Option ME) hg (enters_of Tryd.func79 (by kernel_rfl) rfl) (fun b => match b.2 with | none => R b.1 | some x => R b.1 ++ [valsT [x.v]]) X (fun b => b = (ys.length, none))
    (fun b xs b' => ∃ x, b.2 = some x ∧ b.1 < ys.length ∧ (ys.map ME.plain)[b.1]? = some x.plain ∧ xs = #[.int .i64 (b.1 : Int), x.val] ∧ b' = (b.1 + 1, none))
    (fun b xs b' ⟨_, _, _, _, hx, _⟩ => by rw [hx, hps]; rfl) (0, none) h0 ?_ ?_ (fun b W hF hj => by subst hF; exact hdone W hj) hstop
  · rintro ⟨k, ox⟩ xs b' W o0 ⟨x, rfl, hk, hp, rfl, rfl⟩ hj
    exact hround k x W o0 hk hp hj
  · intro J' Jx' hJ hC hY W hW'
    have hmk : ∀ k W, J' (k, none) W → w.heap.size + 1 < W.heap.size := fun k W h => by
      obtain ⟨o', h2⟩ := (hJ (k, none) W h).exact_of_some
      exact (Array.getElem?_eq_some_iff.1 (Led.at_mark (m := []) (by simpa using h2)).2).1
    refine CallsIn.mono (all_iter (n - 1) (w.heap.size + 1) bx ra rc ys hL hnn (fun k W => J' (k, none) W) (fun k x W => J' (k, some x) W ∧ (ys.map ME.plain)[k]? = some x.plain) Jx' (fun k W h => (hJ _ W h).allAt i (by rw [List.getElem?_append_left (List.getElem?_eq_some_iff.1 (hi k)).1]; exact hi k)) ?_ ?_ W hW') ?_
    · intro k W W' x h ht hin hb hp
      refine ⟨hC (k, none) W (k, some x) W' h ?_ ?_, hp⟩
      · have h1 := (hJ _ W h).valsNew (vs := [x.v]) ht (by simpa using hin) (by simpa using hb)
        exact h1.swapEnd
      · have hlt := hmk k W h
        exact ⟨ht.block _ (by omega) (by simp), ht.block _ hlt (by simp)⟩
    · rintro k x W hk ⟨h, hp⟩
      exact hY (k, some x) _ (k + 1, none) W ⟨x, rfl, hk, hp, rfl, rfl⟩ h
    · rintro e W ⟨hv, ⟨k, hk, hj⟩ | hx⟩
      · exact ⟨hv, .inl ⟨(k, none), by rw [hk], hj⟩⟩
      · exact ⟨hv, .inr hx⟩
end Go.Proofs.YtihmbgdkllmkaaaDoor

/-
  A map of integers to true, as a set; clear of the end of a row. No program is in sight.
-/
namespace Go.Proofs.YtihmbgdkllmkaaaDoor
open Go.RowKit
set_option linter.unusedVariables false
set_option linter.unusedSimpArgs false

/-- The entries are the integers xs, each with true. -/
def IsSet (es : List MapEntry) (xs : List Int) : Prop := es.map (fun e => (e.key, e.val)) = xs.map (fun x => (Value.int .i64 x, Value.bool true))
theorem IsSet.nil : IsSet [] [] := rfl
theorem IsSet.cons {e : MapEntry} {es : List MapEntry} {xs : List Int} (h : IsSet (e :: es) xs) : ∃ x r, xs = x :: r ∧ e.key = .int .i64 x ∧ e.val = .bool true ∧ IsSet es r := by
  cases xs with
  | nil => simp [IsSet] at h
  | cons x r => simp [IsSet] at h; exact ⟨x, r, rfl, h.1.1, h.1.2, h.2⟩
theorem find_set (y : Int) : ∀ (es : List MapEntry) (xs : List Int) (i : Nat), IsSet es xs → (y ∉ xs ∧ Instr.findNow (.int .i64) (.int .i64 y) es i = some none) ∨ (y ∈ xs ∧ ∃ j, xs[j]? = some y ∧ Instr.findNow (.int .i64) (.int .i64 y) es i = some (some (i + j, .bool true))) := by
  intro es
  induction es with
  | nil =>
    intro xs i h
    cases xs with
    | nil => exact .inl ⟨by simp, rfl⟩
    | cons x r => simp [IsSet] at h
  | cons e es ih =>
    intro xs i h
    obtain ⟨x, r, rfl, hk, hv, hr⟩ := h.cons
    by_cases hxy : y = x
    · subst hxy
      refine .inr ⟨by simp, 0, rfl, ?_⟩
      simp [Instr.findNow, Instr.sameNow, hk, hv]
    · have hf : Instr.sameNow (.int .i64) (.int .i64 y) e.key = some false := by simp [Instr.sameNow, hk, hxy]
      rcases ih r (i + 1) hr with ⟨h1, h2⟩ | ⟨h1, j, h2, h3⟩
      · exact .inl ⟨by simp [hxy, h1], by simp only [Instr.findNow, hf]; exact h2⟩
      · exact .inr ⟨by simp [h1], j + 1, by simpa using h2, by simp only [Instr.findNow, hf]; rw [h3]; congr 3; omega⟩

section
variable {P : Program} {w : World} {t K E : TypeId} {r clock : Nat} {es : Array MapEntry} {xs : List Int}
theorem run_checkKey_i (b : Bool) (n : Nat) (hk : P.underlying K = some (.int .i64)) (x : Int) : (Instr.checkKey b (n + 1) K (.int .i64 x)).run P w = .ok () w := by
  simp [Instr.checkKey, run_underlying hk]
theorem run_findKey_i (hk : P.underlying K = some (.int .i64)) (x : Int) (l : List MapEntry) {o : Option (Nat × Value)} (hf : Instr.findNow (.int .i64) (.int .i64 x) l 0 = some o) : (Instr.findKey K (.int .i64 x) l).run P w = .ok o w := by
  simp [Instr.findKey, run_underlying hk, hf]
theorem run_getObj_m (hr : w.heap[r]? = some (.map es clock)) : (getObj r).run P w = .ok (.map es clock) w := by
  simp [getObj, Sem.run, hr]
theorem run_setObj_m (o : Obj) (hr : w.heap[r]? = some (.map es clock)) : (setObj r o).run P w = .ok () (w.putObj r o) := by
  simp [setObj, Sem.run, hr, World.putObj]
/-- gone[y] = true. -/
theorem run_setAdd (ht : P.underlying t = some (.map K E)) (hk : P.underlying K = some (.int .i64)) (hr : w.heap[r]? = some (.map es clock)) (hs : IsSet es.toList xs) (y : Int) :
    ∃ es' clock' xs', (Instr.mapUpdate t (.map (some r)) (.int .i64 y) (.bool true)).run P w = .ok () (w.putObj r (.map es' clock')) ∧ IsSet es'.toList xs' ∧ ∀ z, z ∈ xs' ↔ z = y ∨ z ∈ xs := by
  rcases find_set y es.toList xs 0 hs with ⟨h1, h2⟩ | ⟨h1, j, h2, h3⟩
  · refine ⟨es.push ⟨.int .i64 y, .bool true, clock⟩, clock + 1, xs ++ [y], ?_, ?_, fun z => ?_⟩
    · simp [Instr.mapUpdate, run_underlying ht, run_getObj_m hr, run_checkKey_i false 9999 hk, run_findKey_i hk y es.toList h2, run_setObj_m _ hr]
    · unfold IsSet at hs ⊢
      simp only [Array.toList_push, List.map_append, hs, List.map_cons, List.map_nil]
    · simp [or_comm]
  · rw [Nat.zero_add] at h3
    have hlen : es.toList.length = xs.length := by have := congrArg List.length hs; simpa using this
    have hj : j < xs.length := (List.getElem?_eq_some_iff.1 h2).1
    have hjs : j < es.size := by simpa using (by omega : j < es.toList.length)
    have hkey : es[j].key = .int .i64 y ∧ es[j].val = .bool true := by
      have h := congrArg (fun l => l[j]?) hs
      simp only [List.getElem?_map, h2] at h
      rw [List.getElem?_eq_getElem (by simpa using hjs)] at h
      simpa using h
    refine ⟨es.modify j fun e => { e with key := .int .i64 y, val := .bool true }, clock, xs, ?_, ?_, fun z => ⟨.inr, fun h => h.elim (fun e => e ▸ h1) id⟩⟩
    · have hst : ∀ W, (Instr.keyThatStays (.int .i64 y) (.int .i64 y)).run P W = .ok (.int .i64 y) W := fun W => by simp [Instr.keyThatStays, Instr.sameBits]
      simp [Instr.mapUpdate, run_underlying ht, run_getObj_m hr, run_checkKey_i false 9999 hk, run_findKey_i hk y es.toList h3, run_setObj_m _ hr, Array.getElem?_eq_getElem hjs, hkey.1, hst]
    · unfold IsSet at hs ⊢
      rw [← hs]
      apply List.ext_getElem
      · simp
      · intro i h1' h2'
        simp only [List.getElem_map, Array.getElem_toList]
        by_cases hij : j = i
        · subst hij
          simp [Array.getElem_modify, hkey.1, hkey.2]
        · simp [Array.getElem_modify, hij]
/-- gone[y]. -/
theorem run_setHas (ht : P.underlying t = some (.map K E)) (hk : P.underlying K = some (.int .i64)) (hr : w.heap[r]? = some (.map es clock)) (hs : IsSet es.toList xs) (hz : (zeroValue E).run P w = .ok (.bool false) w) (y : Int) :
    (Instr.lookup t (.map (some r)) (.int .i64 y) false).run P w = .ok (.bool (decide (y ∈ xs))) w := by
  rcases find_set y es.toList xs 0 hs with ⟨h1, h2⟩ | ⟨h1, j, h2, h3⟩
  · simp [Instr.lookup, run_underlying ht, run_getObj_m hr, run_checkKey_i es.isEmpty 9999 hk, run_findKey_i hk y es.toList h2, hz, h1]
  · simp [Instr.lookup, run_underlying ht, run_getObj_m hr, run_checkKey_i es.isEmpty 9999 hk, run_findKey_i hk y es.toList h3, h1]
end
/-- A set of integers at r: those of p. -/
def setT (r : Nat) (xs : List Int) : Thing where
  holds w fp := fp = [r] ∧ ∃ es clock ys, w.heap[r]? = some (.map es clock) ∧ IsSet es.toList ys ∧ ∀ z, z ∈ ys ↔ z ∈ xs
  keep := fun ⟨h1, es, c, ys, h2, h3⟩ he => ⟨h1, es, c, ys, (he r (by simp [h1])).trans h2, h3⟩
  lt := fun ⟨h1, es, c, ys, h2, _⟩ k hk => by subst h1; simp at hk; subst hk; exact (Array.getElem?_eq_some_iff.1 h2).1

/-- clear of the end of a row. -/
theorem run_clear_row {P : Program} (w : World) (t ty e : TypeId) (i : TypeInfo) (z : Value) (size : Nat) (ht : P.underlying t = some (.slice e)) (hi : P.info? e = some i) (hz : i.zero = some z) (hsize : i.size = size) (hzs : z.cells.size = size) (h1 : ∀ u ∈ z.cells.toList, u.oneCell' = true)
    (g n cap lo c : Nat) (xs : List Value) (h : rowS w e size (.slice (some ⟨g, 0, none⟩) n cap) n xs) (hlo : lo ≤ n) {sa : Option Addr} {k : Nat} (hk : lo * k = lo * size) (hs : n = lo ∨ sa = (some (⟨g, 0, none⟩ : Addr)).map (·.add (lo * k))) :
    ∃ w', (Builtin.clear_ #[t] ty #[.slice sa (n - lo) c]).run P w = .ok (.tuple #[]) w' ∧ rowS w' e size (.slice (some ⟨g, 0, none⟩) lo cap) lo (xs.take (lo * size)) ∧ w.grownBy w' (some g) := by
  have hms : lo * size ≤ n * size := Nat.mul_le_mul_right _ hlo
  rcases h.2 with ⟨hv, _⟩ | ⟨g', cap', cur, hv, hg, hc1, hc2, hc3, hc4⟩
  · cases hv
  injection hv with ha _ hcc
  injection ha with ha
  injection ha with ha
  subst ha hcc
  have hns : n * size ≤ cur.size := Nat.le_trans (Nat.mul_le_mul_right _ hc1) hc3
  have hrow : ∀ cur' : Array Value, cur'.size = cur.size → cur'.toList.take (lo * size) = cur.toList.take (lo * size) → ∀ w', w'.heap[g]? = some (.cells cur' e (0, 0)) → rowS w' e size (.slice (some ⟨g, 0, none⟩) lo cap) lo (xs.take (lo * size)) := fun cur' e1 e2 w' hw => by
    refine ⟨by rw [List.length_take, h.1]; omega, .inr ⟨g, cap, cur', rfl, hw, by omega, hc2, by omega, ?_⟩⟩
    rw [e2, ← hc4, List.take_take, Nat.min_eq_left hms]
  by_cases hnl : n = lo
  · subst hnl
    refine ⟨w, ?_, hrow cur rfl rfl w hg, World.grownBy.refl w _⟩
    rw [Nat.sub_self]
    cases sa <;> simp [Builtin.clear_, run_underlying ht]
  · have hs' := hs.resolve_left hnl
    subst hs'
    have hst := run_storeCells_at P g (lo * size) e (Builtin.zeroCells z.cells (n - lo)).toList 0 cur w hg (by
      have hsz : (Builtin.zeroCells z.cells (n - lo)).toList.length = (n - lo) * size := by rw [Array.length_toList, size_zeroCells, hzs]
      have : (n - lo) * size = n * size - lo * size := Nat.sub_mul _ _ _
      rw [hsz]
      omega) (by
      intro u hu
      simp only [Builtin.zeroCells, Array.toList_map, List.mem_map] at hu
      obtain ⟨q, hq, rfl⟩ := hu
      have hq2 : q < (n - lo) * z.cells.size := by simpa using hq
      have hpos : 0 < z.cells.size := by
        rcases Nat.eq_zero_or_pos z.cells.size with h0 | h0
        · rw [h0] at hq2; omega
        · exact h0
      have hlt := Nat.mod_lt q hpos
      rw [getElem!_pos z.cells (q % z.cells.size) hlt]
      exact h1 _ (by simp))
    have hsz : (Builtin.zeroCells z.cells (n - lo)).toList.length = (n - lo) * size := by rw [Array.length_toList, size_zeroCells, hzs]
    have hmul : (n - lo) * size = n * size - lo * size := Nat.sub_mul _ _ _
    simp only [Nat.add_zero] at hst
    obtain ⟨m, hm⟩ : ∃ m, n - lo = m + 1 := ⟨n - lo - 1, by omega⟩
    obtain ⟨zs, hzs2⟩ : ∃ zs, (Builtin.zeroCells z.cells (n - lo)).toList = zs := ⟨_, rfl⟩
    rw [hzs2] at hst hsz
    refine ⟨w.setRow g (cur.toList.take (lo * size) ++ zs ++ cur.toList.drop (lo * size + zs.length)).toArray, ?_, hrow _ ?_ ?_ _ (setRow_heap w g cur _ e _ hg), ⟨rfl, rfl, rfl, by simp, fun q _ hq => setRow_other w g q _ (fun e => hq (by simp [e]))⟩⟩
    · rw [hm] at hzs2 ⊢
      simp [Builtin.clear_, run_underlying ht, zeroValue, typeInfo, hi, hz, hk, Addr.add_lit, hzs2, hst]
    · simp only [List.size_toArray, List.length_append, List.length_take, List.length_drop, Array.length_toList, hsz]
      omega
    · simp only [List.append_assoc]
      rw [List.take_left' (by simp; omega)]
end Go.Proofs.YtihmbgdkllmkaaaDoor

/-
  slices.IndexFunc and slices.DeleteFunc at entries; Purge (queue.go).
-/
namespace Go.Proofs.YtihmbgdkllmkaaaDoor
open Go.RowKit Go.Shelf
set_option maxRecDepth 100000
set_option linter.unusedVariables false
set_option linter.unusedSimpArgs false

theorem wpList_clear_run {P : Program} (w : World) {ops : Array Oper} {rest : List Oper} {o : Oper} {a : Act} {Q : Exit → Act → World → Prop} (hgd : o.guard = none) (x : Operand) (t : TypeId)
    (ho : o.op = .call { callee := .builtin .clear, args := #[x], argTypes := #[t] }) (vx : Value) (hx : a.eval x = vx)
    (v' : Value) (w' : World) (hr : (Builtin.clear_ #[t] o.type #[vx]).run P w = .ok v' w') (h : wpList P ops Q rest (a.put o.dst v') w') : wpList P ops Q (o :: rest) a w :=
  wpList_plain hgd fun _ hK => by
    unfold Oper.wp execOp
    simp only [ho, resolve, invoke, builtin, Sem.run_bind, Sem.run_pure, Result.andThen_ok, List.map_toArray, List.map_cons, List.map_nil, hx, hr]
    exact hK _ _ h
section
variable {T : List Nat} {w0 w : World} {l : List Thing}
theorem Led.rowEnts (h : Led T w0 w l) (i : Nat) {e g n cap : Nat} {vs : List ME} (hi : l[i]? = some (rowT e 7 (.slice (some ⟨g, 0, none⟩) n cap) n (entCells vs))) {j : Nat} (hj : j < vs.length) :
    EntAt w g (j * 7) vs[j] ∧ (w.frozen? ⟨g, j * 7, none⟩ = false ∧ w.frozen? ⟨g, j * 7 + 1, none⟩ = false ∧ w.frozen? ⟨g, j * 7 + 2, none⟩ = false ∧ w.frozen? ⟨g, j * 7 + 3, none⟩ = false ∧ w.frozen? ⟨g, j * 7 + 4, none⟩ = false ∧ w.frozen? ⟨g, j * 7 + 5, none⟩ = false ∧ w.frozen? ⟨g, j * 7 + 6, none⟩ = false) ∧ g < w.heap.size := by
  have hr := h.rowSAt i hi
  have hl := entCells_length vs
  have hc : ∀ q, q < 7 → w.cell? ⟨g, j * 7 + q, none⟩ = vs[j].cells[q]? := fun q hq => by
    have hlt : j * 7 + q < (entCells vs).length := by omega
    rw [rowS_cell hr _ hlt, ← entCells_get vs j hj q hq, List.getElem?_eq_getElem hlt]
  exact ⟨⟨hc 0 (by omega), hc 1 (by omega), hc 2 (by omega), hc 3 (by omega), hc 4 (by omega), hc 5 (by omega), hc 6 (by omega)⟩, ⟨rowS_frozen hr _, rowS_frozen hr _, rowS_frozen hr _, rowS_frozen hr _, rowS_frozen hr _, rowS_frozen hr _, rowS_frozen hr _⟩, rowS_lt hr g (by simp [sb, Value.ownBlock])⟩
theorem Led.rowSetEnt (h : Led T w0 w l) (i : Nat) {e g n cap : Nat} {vs : List ME} (hi : l[i]? = some (rowT e 7 (.slice (some ⟨g, 0, none⟩) n cap) n (entCells vs))) {j : Nat} (hj : j < vs.length) (x : ME) :
    Led T w0 (((((((w.setCell ⟨g, j * 7, none⟩ (.int .i64 x.sync)).setCell ⟨g, j * 7 + 1, none⟩ (.int .i64 x.thread)).setCell ⟨g, j * 7 + 2, none⟩ (.int .i64 x.branch)).setCell ⟨g, j * 7 + 3, none⟩ (.int .i64 x.flag)).setCell ⟨g, j * 7 + 4, none⟩ (.int .i64 x.v.kind)).setCell ⟨g, j * 7 + 5, none⟩ (.int .i64 x.v.num)).setCell ⟨g, j * 7 + 6, none⟩ (.slice x.v.addr x.v.parts.length x.v.cap))
      (l.set i (rowT e 7 (.slice (some ⟨g, 0, none⟩) n cap) n (entCells (vs.set j x)))) := by
  have hl := (List.getElem?_eq_some_iff.1 hi).1
  have e : ∀ (l : List Thing) (t1 t2 : Thing), (l.set i t1).set i t2 = l.set i t2 := fun l t1 t2 => List.set_set t1
  have g : ∀ (t1 : Thing), (l.set i t1)[i]? = some t1 := fun t1 => List.getElem?_set_self hl
  have h1 := h.rowSset i hi (j * 7) (.int .i64 x.sync)
  have h2 := h1.rowSset i (g _) (j * 7 + 1) (.int .i64 x.thread)
  rw [e] at h2
  have h3 := h2.rowSset i (g _) (j * 7 + 2) (.int .i64 x.branch)
  rw [e] at h3
  have h4 := h3.rowSset i (g _) (j * 7 + 3) (.int .i64 x.flag)
  rw [e] at h4
  have h5 := h4.rowSset i (g _) (j * 7 + 4) (.int .i64 x.v.kind)
  rw [e] at h5
  have h6 := h5.rowSset i (g _) (j * 7 + 5) (.int .i64 x.v.num)
  rw [e] at h6
  have h7 := h6.rowSset i (g _) (j * 7 + 6) (.slice x.v.addr x.v.parts.length x.v.cap)
  rw [e] at h7
  rw [entCells_set vs j hj x]
  exact h7
end
/-- What DeleteFunc leaves. -/
def Deleted (T : List Nat) (w : World) (es : List ME) (p : PE → Bool) (a : Option Addr) (cap : Nat) (e : Ending) (w' : World) : Prop :=
  e = .returned (.slice a (es.filter fun e => !p e.plain).length cap) ∧ Led T w w' [rowT 42 7 (.slice a (es.filter fun e => !p e.plain).length cap) (es.filter fun e => !p e.plain).length (entCells (es.filter fun e => !p e.plain))]
theorem filter_take_succ (f : ME → Bool) {es : List ME} {j : Nat} (hj : j < es.length) : (es.take (j + 1)).filter f = (es.take j).filter f ++ (if f es[j] then [es[j]] else []) := by
  rw [List.take_add_one, List.getElem?_eq_getElem hj, Option.toList_some, List.filter_append]
  congr 1
  by_cases h : f es[j] = true <;> simp [h]
theorem filter_all (f : ME → Bool) {es : List ME} {j : Nat} (h : ∀ i (hi : i < es.length), i < j → f es[i] = true) : (es.take j).filter f = es.take j := by
  rw [List.filter_eq_self]
  intro x hx
  obtain ⟨i, hi, rfl⟩ := List.mem_iff_getElem.1 hx
  simp only [List.length_take] at hi
  rw [List.getElem_take]
  exact h i (by omega) (by omega)

theorem zero_bool (w : World) : (zeroValue 4).run Tryd.prog w = .ok (.bool false) w := by kernel_rfl
/-- Integers lie at an address. -/
def IntsAt (w : World) (a : Option Addr) (zs : List Int) : Prop := ∀ i (hi : i < zs.length), ∃ b o, a = some ⟨b, o, none⟩ ∧ b < w.heap.size ∧ w.cell? ⟨b, o + i, none⟩ = some (.int .i64 zs[i])
def Purged (T : List Nat) (w : World) (g : Nat) (es : List ME) (zs : List Int) (e : Ending) (w' : World) : Prop :=
  e = .returned (.int .i64 ((es.length - (es.filter fun e => !decide (e.plain.sync ∈ zs)).length : Nat) : Int)) ∧ Led T w w' [queueT g (es.filter fun e => !decide (e.plain.sync ∈ zs))]
theorem Led.setNew {T : List Nat} {w0 w : World} {l : List Thing} (h : Led T w0 w l) {w' : World} (e : w.alloc (.map #[] 0) = w') : Led T w0 w' (l ++ [setT w.heap.size []]) :=
  e ▸ h.new (t' := setT w.heap.size []) (f' := [w.heap.size]) ⟨rfl, #[], 0, [], heap_alloc_new w _, IsSet.nil, by simp⟩ ⟨(Touch.refl [] w).alloc _, fun k hk => .inr (by simp at hk; omega)⟩
end Go.Proofs.YtihmbgdkllmkaaaDoor

/-
  The calls of a queue, in a caller's ledger: the queue is one thing, the values of all entries another.
-/
namespace Go.Proofs.YtihmbgdkllmkaaaDoor
open Go.RowKit
set_option maxRecDepth 100000
set_option linter.unusedVariables false
set_option linter.unusedSimpArgs false

section
variable {T : List Nat} {w0 w w' : World} {l : List Thing} {g : Nat} {es : List ME}
theorem Led.valsInto {vs us : List MT} (h : Led T w0 w (l ++ [valsT us])) (j : Nat) (hj : l[j]? = some (valsT vs)) : Led T w0 w (l.set j (valsT (vs ++ us))) := by
  have hlt := (List.getElem?_eq_some_iff.1 hj).1
  have h1 : Led T w0 w ((l.take j ++ l.drop (j + 1)) ++ [valsT vs, valsT us]) := by
    refine h.reindex (fun i => if i < j then i else if i < l.length - 1 then i + 1 else if i = l.length - 1 then j else l.length) ?_ ?_
    · intro i t hi
      have hil := (List.getElem?_eq_some_iff.1 hi).1
      simp only [List.length_append, List.length_take, List.length_drop, List.length_cons, List.length_nil] at hil
      by_cases c1 : i < j
      · rw [if_pos c1]
        rw [List.getElem?_append_left (by simp; omega), List.getElem?_append_left (by simp; omega), List.getElem?_take_of_lt c1] at hi
        rw [List.getElem?_append_left (by omega)]; exact hi
      · rw [if_neg c1]
        by_cases c2 : i < l.length - 1
        · rw [if_pos c2]
          rw [List.getElem?_append_left (by simp; omega), List.getElem?_append_right (by simp; omega), List.getElem?_drop] at hi
          rw [List.getElem?_append_left (by omega)]
          rw [List.length_take, show j + 1 + (i - min j l.length) = i + 1 by omega] at hi
          exact hi
        · rw [if_neg c2]
          rw [List.getElem?_append_right (by simp; omega)] at hi
          by_cases c3 : i = l.length - 1
          · rw [if_pos c3, List.getElem?_append_left hlt, hj]
            rw [show i - (l.take j ++ l.drop (j + 1)).length = 0 by simp; omega] at hi
            simpa using hi
          · rw [if_neg c3, List.getElem?_append_right (Nat.le_refl _), Nat.sub_self]
            rw [show i - (l.take j ++ l.drop (j + 1)).length = 1 by simp; omega] at hi
            simpa using hi
    · intro a b ha hb hab
      simp only [List.length_append, List.length_take, List.length_drop, List.length_cons, List.length_nil] at ha hb
      split at hab <;> split at hab <;> (try split at hab) <;> (try split at hab) <;> (try split at hab) <;> (try split at hab) <;> omega
  have h2 := h1.valsJoin
  refine h2.reindex (fun i => if i < j then i else if i = j then l.length - 1 else i - 1) ?_ ?_
  · intro i t hi
    have hil := (List.getElem?_eq_some_iff.1 hi).1
    simp only [List.length_set] at hil
    by_cases c1 : i < j
    · rw [if_pos c1, List.getElem?_append_left (by simp; omega), List.getElem?_append_left (by simp; omega), List.getElem?_take_of_lt c1]
      rwa [List.getElem?_set_ne (by omega)] at hi
    · rw [if_neg c1]
      by_cases c2 : i = j
      · subst c2
        rw [if_pos rfl, List.getElem?_append_right (by simp; omega), show l.length - 1 - (l.take i ++ l.drop (i + 1)).length = 0 by simp; omega]
        rw [List.getElem?_set_self hlt] at hi
        simpa using hi
      · rw [if_neg c2, List.getElem?_append_left (by simp; omega), List.getElem?_append_right (by simp; omega), List.getElem?_drop, List.length_take, show j + 1 + (i - 1 - min j l.length) = i by omega]
        rwa [List.getElem?_set_ne (by omega)] at hi
  · intro a b ha hb hab
    simp only [List.length_set] at ha hb
    split at hab <;> split at hab <;> (try split at hab) <;> (try split at hab) <;> omega

/-- What is kept beside the thing i. -/
def Beside (l : List Thing) (i : Nat) (W : World) : Prop := ∀ j u, j ≠ i → l[j]? = some u → ∃ f, u.holds W f
theorem Led.qPush {vs : List MT} {xs : List ME} {a : Option Addr} {cap : Nat} (h : Led T w0 w l) (i j : Nat) (hi : l[i]? = some (queueT g es)) (hj : l[j]? = some (valsT vs)) (hij : i ≠ j) (hsrc : ∀ W, Beside l i W → EntsAt W a xs ∧ ∀ x ∈ xs, x.v.In W) (hn : xs.length ≤ 1099511627776) (hes : es.length ≤ 4096) :
    Calls Tryd.prog 39 #[.pointer (some ⟨g, 0, none⟩), .slice a xs.length cap] w fun e w' => ∃ k err ys, e = .returned (.int .i64 err) ∧ PushR es.length (xs.map ME.plain) k err ∧ ys.map ME.plain = (xs.map ME.plain).take k ∧ Led T w0 w' ((l.set i (queueT g (es ++ ys))).set j (valsT (vs ++ ys.map ME.v))) := by
  obtain ⟨T', h1, _, hk, hb⟩ := h.frameK i hi
  refine (Push_q T' w g es xs a cap h1 (fun W hW => hsrc W (hk W hW)) hn hes).mono ?_
  rintro e w' ⟨k, err, ys, rfl, hR, hp, hL⟩
  refine ⟨k, err, ys, rfl, hR, hp, (hb _ _ _ hL).valsInto j ?_⟩
  rwa [List.getElem?_set_ne hij]
theorem Led.qDrop (h : Led T w0 w l) (i : Nat) (hi : l[i]? = some (queueT g es)) (z : Int) (hes : es.length ≤ 1048576) :
    Calls Tryd.prog 36 #[.pointer (some ⟨g, 0, none⟩), .int .i64 z] w fun e w' => (∃ x, 0 ≤ z ∧ es[z.toNat]? = some x ∧ e = .returned (.tuple #[x.val, .bool true]) ∧ Led T w0 w' (l.set i (queueT g (es.eraseIdx z.toNat)))) ∨
      (¬ (0 ≤ z ∧ z < (es.length : Int)) ∧ e = .returned (.tuple #[ME.zero.val, .bool false]) ∧ Led T w0 w' (l.set i (queueT g es))) := by
  obtain ⟨T', h1, hb⟩ := h.frame1 i hi
  refine (Drop_q T' w g es z h1 hes).mono ?_
  rintro e w' (⟨x, h0, hx, rfl, hL⟩ | ⟨hn, rfl, hL⟩)
  · exact .inl ⟨x, h0, hx, rfl, hb _ _ _ hL⟩
  · exact .inr ⟨hn, rfl, hb _ _ _ hL⟩
theorem Led.qAt1 {vs : List MT} (h : Led T w0 w l) (i j : Nat) (hi : l[i]? = some (queueT g es)) (hj : l[j]? = some (valsT vs)) (hes : ∀ e ∈ es, e.v ∈ vs ∧ e.v.nodes ≤ 256) (z : Int) :
    Calls Tryd.prog 44 #[.pointer (some ⟨g, 0, none⟩), .int .i64 z] w fun e w' => ∃ x c, e = .returned (.tuple #[x.val, .bool c]) ∧ AtR (es.map ME.plain) z x c ∧ Led T w0 w' (l.set j (valsT (vs ++ [x.v]))) := by
  refine (At_q w g es z (h.qAt i hi) (fun e he => ⟨h.valsIn j hj _ (hes e he).1, (hes e he).2⟩)).mono ?_
  rintro e w' ⟨x, c, rfl, hR, hin, hb, ht⟩
  exact ⟨x, c, rfl, hR, (h.valsNew (vs := [x.v]) ht (by simpa using hin) (by simpa using hb)).valsInto j hj⟩
theorem ents_box {W : World} {b c : Nat} {xs : List ME} {cs : Array Value} (hcs : cs = (entCells xs).toArray) (h : ∃ f, (box b c cs).holds W f) : EntsAt W (some ⟨b, 0, none⟩) xs := by
  obtain ⟨f, _, hb⟩ := h
  subst hcs
  intro i hi
  have hl := entCells_length xs
  have hc : ∀ q, q < 7 → W.cell? ⟨b, 0 + i * 7 + q, none⟩ = xs[i].cells[q]? := fun q hq => by
    rw [Nat.zero_add, hb.cell (i * 7 + q), ← entCells_get xs i hi q hq, List.getElem?_toArray]
  exact ⟨b, 0, rfl, hb.lt, hc 0 (by omega), hc 1 (by omega), hc 2 (by omega), hc 3 (by omega), hc 4 (by omega), hc 5 (by omega), hc 6 (by omega)⟩
theorem ints_box {W : World} {b c : Nat} {zs : List Int} {cs : Array Value} (hcs : cs = (zs.map (Value.int .i64)).toArray) (h : ∃ f, (box b c cs).holds W f) : IntsAt W (some ⟨b, 0, none⟩) zs := by
  obtain ⟨f, _, hb⟩ := h
  subst hcs
  intro i hi
  exact ⟨b, 0, rfl, hb.lt, by rw [Nat.zero_add, hb.cell i]; simp [hi]⟩
end
end Go.Proofs.YtihmbgdkllmkaaaDoor

/-
  The plain model of layer 1: an arena is a list of words, how many there may be, and all accesses. No program is in sight.
-/
namespace Go.Proofs.YtihmbgdkllmkaaaDoor
open Go.RowKit

/-- An access: its operation, its cell, what the cell held, what it holds, whether it was done. -/
structure Acc where
  op : Nat
  at_ : Nat
  old : Nat
  new : Nat
  did : Bool
deriving DecidableEq

def Acc.cells (x : Acc) : List Value := [.int .i64 x.op, .int .i64 x.at_, .int .u64 x.old, .int .u64 x.new, .bool x.did]
def Acc.zero : Acc := ⟨0, 0, 0, 0, false⟩
theorem Acc.cells_length (x : Acc) : x.cells.length = 5 := rfl
def accCells (l : List Acc) : List Value := l.flatMap Acc.cells
theorem accCells_length (l : List Acc) : (accCells l).length = l.length * 5 := by
  induction l with
  | nil => rfl
  | cons x l ih => simp only [accCells, List.flatMap_cons, List.length_append, Acc.cells_length, List.length_cons] at ih ⊢; omega
theorem accCells_append (a b : List Acc) : accCells (a ++ b) = accCells a ++ accCells b := by simp [accCells]
theorem accCells_get (l : List Acc) (i : Nat) (hi : i < l.length) (j : Nat) (hj : j < 5) : (accCells l)[i * 5 + j]? = l[i].cells[j]? := by
  induction l generalizing i with
  | nil => simp at hi
  | cons x l ih =>
    simp only [accCells, List.flatMap_cons]
    cases i with
    | zero =>
      rw [List.getElem?_append_left (by simp [Acc.cells_length]; omega)]
      simp
    | succ i =>
      rw [List.getElem?_append_right (by simp [Acc.cells_length]; omega)]
      have := ih i (by simpa using hi)
      simp only [Acc.cells_length, List.getElem_cons_succ]
      rw [show (i + 1) * 5 + j - 5 = i * 5 + j from by omega]
      exact this
theorem accCells_set (l : List Acc) (i : Nat) (hi : i < l.length) (x : Acc) :
    accCells (l.set i x) = ((((((accCells l).set (i * 5) (.int .i64 x.op)).set (i * 5 + 1) (.int .i64 x.at_)).set (i * 5 + 2) (.int .u64 x.old)).set (i * 5 + 3) (.int .u64 x.new)).set (i * 5 + 4) (.bool x.did)) := by
  induction l generalizing i with
  | nil => simp at hi
  | cons y l ih =>
    cases i with
    | zero => simp [accCells, Acc.cells]
    | succ i =>
      have := ih i (by simpa using hi)
      simp only [accCells, List.set_cons_succ, List.flatMap_cons] at this ⊢
      rw [this]
      simp only [Acc.cells, List.cons_append, List.nil_append]
      rw [show (i + 1) * 5 = i * 5 + 1 + 1 + 1 + 1 + 1 from by omega]
      simp only [List.set_cons_succ]

/-- An arena: its words, how many there may be, all accesses. -/
structure Ar where
  C : List Nat
  most : Nat
  L : List Acc

/-- r is what is remembered of L: the last 1024, each at its number modulo 1024. -/
def Ring (L r : List Acc) : Prop := r.length = min L.length 1024 ∧ ∀ j, L.length ≤ j + 1024 → j < L.length → r[j % 1024]? = L[j]?

theorem Ring.nil : Ring [] [] := ⟨rfl, fun j _ h => by simp at h⟩
theorem Ring.push {L r : List Acc} (h : Ring L r) (hl : r.length < 1024) (x : Acc) : Ring (L ++ [x]) (r ++ [x]) := by
  obtain ⟨h1, h2⟩ := h
  have hL : L.length < 1024 := by omega
  refine ⟨by simp; omega, fun j hj1 hj2 => ?_⟩
  simp only [List.length_append, List.length_cons, List.length_nil] at hj1 hj2
  rw [Nat.mod_eq_of_lt (by omega)]
  by_cases hj : j < L.length
  · rw [List.getElem?_append_left (by omega), List.getElem?_append_left hj]
    have := h2 j (by omega) hj
    rwa [Nat.mod_eq_of_lt (by omega)] at this
  · have e : j = L.length := by omega
    have e2 : r.length = L.length := by omega
    rw [List.getElem?_append_right (by omega), List.getElem?_append_right (by omega), e2, e]
theorem Ring.turn {L r : List Acc} (h : Ring L r) (hl : ¬ r.length < 1024) (x : Acc) : Ring (L ++ [x]) (r.set (L.length % 1024) x) := by
  obtain ⟨h1, h2⟩ := h
  have hr : r.length = 1024 := by omega
  refine ⟨by simp; omega, fun j hj1 hj2 => ?_⟩
  simp only [List.length_append, List.length_cons, List.length_nil] at hj1 hj2
  by_cases hj : j < L.length
  · rw [List.getElem?_append_left hj, List.getElem?_set_ne (by omega)]
    exact h2 j (by omega) hj
  · have e : j = L.length := by omega
    subst e
    rw [List.getElem?_set_self (by have := Nat.mod_lt L.length (show 0 < 1024 by omega); omega)]
    simp

/-- The words, as cells. -/
def words (l : List Nat) : List Value := l.map fun (n : Nat) => .int .u64 (n : Int)
theorem words_length (l : List Nat) : (words l).length = l.length := by simp [words]
theorem words_append (a b : List Nat) : words (a ++ b) = words a ++ words b := by simp [words]
theorem words_get (l : List Nat) (i : Nat) (hi : i < l.length) : (words l)[i]? = some (.int .u64 (l[i] : Int)) := by simp [words, hi]
theorem words_set (l : List Nat) (i : Nat) (n : Nat) : words (l.set i n) = (words l).set i (.int .u64 (n : Int)) := by simp [words, List.map_set]

/-- A word's range. -/
def Wd (n : Nat) : Prop := n < 18446744073709551616

/-- An arena at block g in memory: its struct, the row of its accesses, the row of its words. -/
structure ArAt (w : World) (g : Nat) (v1 v2 : Value) (r : List Acc) (s : Ar) : Prop where
  blk : Blk w g 95 #[.int .u64 (s.L.length : Int), v1, .int .i64 (s.most : Int), v2]
  log : w.ownsRow 0 157 5 v1 r.length (accCells r)
  cel : w.ownsRow 0 34 1 v2 s.C.length (words s.C)
  ring : Ring s.L r
  most1 : 1 ≤ s.most
  most2 : s.most ≤ 65536
  len : s.C.length ≤ s.most
  wd : ∀ n ∈ s.C, Wd n

/-- The same, its blocks named: fp. -/
def IsAr (w : World) (g : Nat) (fp : List Nat) (s : Ar) : Prop := ∃ v1 v2 r, ArAt w g v1 v2 r s ∧ fp = g :: (sb v1 ++ sb v2)

theorem IsAr.keep {w w' : World} {g : Nat} {fp : List Nat} {s : Ar} (h : IsAr w g fp s) (he : ∀ k ∈ fp, w'.heap[k]? = w.heap[k]?) : IsAr w' g fp s := by
  obtain ⟨v1, v2, r, h, rfl⟩ := h
  exact ⟨v1, v2, r, ⟨h.blk.keep (he g (by simp)), own_keep h.log (fun k hk => he k (by simp [hk])), own_keep h.cel (fun k hk => he k (by simp [hk])), h.ring, h.most1, h.most2, h.len, h.wd⟩, rfl⟩
theorem IsAr.lt {w : World} {g : Nat} {fp : List Nat} {s : Ar} (h : IsAr w g fp s) : ∀ k ∈ fp, k < w.heap.size := by
  obtain ⟨v1, v2, r, h, rfl⟩ := h
  intro k hk
  simp only [List.mem_cons, List.mem_append] at hk
  rcases hk with rfl | hk | hk
  · exact h.blk.lt
  · exact own_lt h.log k hk
  · exact own_lt h.cel k hk
theorem IsAr.touch {w w' : World} {g : Nat} {fp S : List Nat} {s : Ar} (h : IsAr w g fp s) (ht : Touch S w w') (hd : ∀ k ∈ fp, k ∉ S) : IsAr w' g fp s :=
  h.keep fun k hk => ht.block k (h.lt k hk) (hd k hk)
theorem IsAr.drewN {w : World} {g : Nat} {fp : List Nat} {s : Ar} (h : IsAr w g fp s) (n : Nat) : IsAr (w.drewN n) g fp s := h.keep fun _ _ => rfl
theorem IsAr.alloc {w : World} {g : Nat} {fp : List Nat} {s : Ar} (h : IsAr w g fp s) (o : Obj) : IsAr (w.alloc o) g fp s := h.keep fun k hk => Below.heap_alloc w o k (h.lt k hk)

/-- A step of what lies at fp: nothing else has turned; what it lies at then is that, or new. -/
structure Moved (fp fp' : List Nat) (w w' : World) : Prop where
  touch : Touch fp w w'
  fp : ∀ k ∈ fp', k ∈ fp ∨ w.heap.size ≤ k
theorem Moved.refl (fp : List Nat) (w : World) : Moved fp fp w w := ⟨Touch.refl _ _, fun _ h => .inl h⟩
theorem Moved.trans {a b c : List Nat} {w w1 w2 : World} (h : Moved a b w w1) (h' : Moved b c w1 w2) : Moved a c w w2 :=
  ⟨h.touch.trans h'.touch h.fp, fun k hk => (h'.fp k hk).elim (fun h2 => h.fp k h2) (fun h2 => .inr (Nat.le_trans h.touch.size h2))⟩
theorem Moved.drewN {a b : List Nat} {w w1 : World} (h : Moved a b w w1) (n : Nat) : Moved a b w (w1.drewN n) := ⟨h.touch.drewN n, h.fp⟩
theorem Moved.alloc {a b : List Nat} {w w1 : World} (h : Moved a b w w1) (o : Obj) : Moved a b w (w1.alloc o) := ⟨h.touch.alloc o, h.fp⟩
end Go.Proofs.YtihmbgdkllmkaaaDoor

/-
  Layer 1, the record: what 'note' does (cell.go), for every record whose count is below 2^62.
-/
namespace Go.Proofs.YtihmbgdkllmkaaaDoor
open Go.RowKit
set_option maxRecDepth 100000
set_option linter.unusedVariables false

theorem acc_one (x : Acc) : ∀ u ∈ x.cells, u.oneCell' = true := by
  intro u hu
  simp only [Acc.cells, List.mem_cons, List.not_mem_nil, or_false] at hu
  rcases hu with rfl | rfl | rfl | rfl | rfl <;> rfl
theorem info_access : (Tryd.prog.info? 157).map (fun i => (i.zero, i.size, i.bytes)) = some (some (.agg #[.int .i64 0, .int .i64 0, .int .u64 0, .int .u64 0, .bool false]), 5, 40) := by kernel_rfl

/-- An access, as a value. -/
abbrev Acc.val (x : Acc) : Value := .agg #[.int .i64 (x.op : Int), .int .i64 (x.at_ : Int), .int .u64 (x.old : Int), .int .u64 (x.new : Int), .bool x.did]
/-- The block of an access's box. -/
abbrev Acc.box (x : Acc) : Obj := .cells #[.int .i64 (x.op : Int), .int .i64 (x.at_ : Int), .int .u64 (x.old : Int), .int .u64 (x.new : Int), .bool x.did] 157

/-- What 'note' leaves. -/
def Noted (w w' : World) (g : Nat) (L : List Acc) (m v1 v2 : Value) (x : Acc) : Prop :=
  ∃ v1' r', Blk w' g 95 #[.int .u64 ((L.length + 1 : Nat) : Int), v1', m, v2] ∧ w'.ownsRow 0 157 5 v1' r'.length (accCells r') ∧ Ring (L ++ [x]) r' ∧
    Touch (g :: sb v1) w w' ∧ (∀ k ∈ sb v1', k ∈ sb v1 ∨ w.heap.size ≤ k)

theorem noted_push {w wa w1 : World} {g g' cap : Nat} {L r : List Acc} {m v1 v2 : Value} {x : Acc} (hb : Blk w g 95 #[.int .u64 (L.length : Int), v1, m, v2])
    (ho : w.ownsRow 0 157 5 v1 r.length (accCells r)) (hR : Ring L r) (hr : r.length < 1024) (hta : Touch [] w wa) (hgrow : wa.grownBy w1 v1.ownBlock)
    (hown : w1.ownsRow 0 157 5 (.slice (some ⟨g', 0, none⟩) (r.length + 1) cap) (r.length + 1) (accCells r ++ x.cells)) (hat : v1.ownBlock = some g' ∨ g' = wa.heap.size) :
    Noted w ((w1.setCell ⟨g, 1, none⟩ (.slice (some ⟨g', 0, none⟩) (r.length + 1) cap)).setCell ⟨g, 0, none⟩ (.int .u64 ((L.length : Int) + 1))) g L m v1 v2 x := by
  have hgn : some g ≠ v1.ownBlock := fun h => own_ne ho hb (by decide) (by simp [sb, ← h])
  have B1 := (hb.touch hta (by simp)).grown hgrow hgn
  have hgo := own_ne hown B1 (by decide)
  refine ⟨.slice (some ⟨g', 0, none⟩) (r.length + 1) cap, r ++ [x], ?_, ?_, hR.push hr x, ?_, ?_⟩
  · have := (B1.set 1 (.slice (some ⟨g', 0, none⟩) (r.length + 1) cap)).set 0 (.int .u64 ((L.length : Int) + 1))
    simpa using this
  · have := own_setCell (own_setCell hown ⟨g, 1, none⟩ (.slice (some ⟨g', 0, none⟩) (r.length + 1) cap) hgo) ⟨g, 0, none⟩ (.int .u64 ((L.length : Int) + 1)) hgo
    rw [accCells_append]
    simpa [accCells] using this
  · refine (((hta.mono (S' := g :: sb v1) (by simp)).grown hgrow ?_).setCell ⟨g, 1, none⟩ _ (by simp)).setCell ⟨g, 0, none⟩ _ (by simp)
    intro k hk
    exact .inl (by simp [sb, hk])
  · intro k hk
    have hk' : k = g' := by simpa [sb, Value.ownBlock] using hk
    subst hk'
    rcases hat with h | h
    · exact .inl (by simp [sb, h])
    · exact .inr (by rw [h]; exact hta.size)

set_option maxHeartbeats 1000000 in
theorem note_push (w : World) (g : Nat) (L r : List Acc) (m v1 v2 : Value) (x : Acc) (hb : Blk w g 95 #[.int .u64 (L.length : Int), v1, m, v2])
    (ho : w.ownsRow 0 157 5 v1 r.length (accCells r)) (hR : Ring L r) (hr : r.length < 1024) (hn : L.length < 4611686018427387904) :
    Calls Tryd.prog 98 #[.pointer (some ⟨g, 0, none⟩), x.val] w fun e w' => e = .returned (.tuple #[]) ∧ Noted w w' g L m v1 v2 x := by
  obtain ⟨i0, hi, hz0, hz1, hz2⟩ := info_parts info_access
  obtain ⟨a1, c1, rfl, hc1, hc2⟩ := own_val ho
  have h0 := hb.cell 0
  have h1 := hb.cell 1
  have f0 := hb.frozen 0
  have f1 := hb.frozen 1
  simp at h0 h1
  have hgl := hb.lt
  have HB := Lib.hid hb
  have HO1 := Lib.hid ho
  have HR := Lib.hid hR
  have HT := Lib.hid ((((Touch.refl [] w).alloc x.box).alloc x.box).drew)
  have HO := Lib.hid (own_drew ((ho.alloc x.box).alloc x.box))
  have hb2 := Lib.hid (Blk.drew ((hb.alloc x.box).alloc x.box))
  have HG : Hid (some g ≠ (Value.slice a1 r.length c1).ownBlock) := fun h => own_ne ho hb (by decide) (by simp [sb, ← h])
  have HN := Lib.hid (World.news_of_block (w := ((w.alloc x.box).alloc x.box).drew) (B := w.heap.size + 1) (cs := #[.int .i64 (x.op : Int), .int .i64 (x.at_ : Int), .int .u64 (x.old : Int), .int .u64 (x.new : Int), .bool x.did]) (t := 157) (fr := (0, 0)) (by have := heap_alloc_new (w.alloc x.box) x.box; rw [World.size_alloc] at this; exact this))
  clear hb ho hR hc1 hc2
  go_enter Tryd.func98, Tryd.ntmps98
  go_wp2
  go_region_law (refine step_append_lies _ rfl (.tmp 14) (.tmp 16) 53 rfl 0 157 i0 _ 5 40 Tryd.underlying53 hi hz0 hz1 hz2 rfl (by decide) (.slice a1 r.length c1) r.length (accCells r) (by simp [Act.eval]) HO.out ⟨w.heap.size + 1, 0, none⟩ 1 1 x.cells (by simp [Act.eval]) rfl HN.out (acc_one x) (by omega) (by simp only [maxLen]; omega) (by omega) (Nat.zero_le _) _ rfl ?_; intro g' cap w1 hown hgrow hat hlt; have B1 := hb2.out.grown hgrow HG.out; have k1 := B1.cell 1; have e1 := B1.frozen 1; have k0 := B1.cell 0; have e0 := B1.frozen 0; simp at k0 k1; have H1 := Lib.hid hown; have H2 := Lib.hid hgrow; have H3 := Lib.hid hat; clear B1 hown hgrow hat)
  all_goals go_wp2
  all_goals go_end0
  all_goals exact ⟨rfl, noted_push HB.out HO1.out HR.out hr HT.out H2.out H1.out H3.out⟩

theorem noted_turn {w : World} {g g1 cap : Nat} {L r : List Acc} {m v2 : Value} {x : Acc} (hb : Blk w g 95 #[.int .u64 (L.length : Int), .slice (some ⟨g1, 0, none⟩) 1024 cap, m, v2])
    (ho : w.ownsRow 0 157 5 (.slice (some ⟨g1, 0, none⟩) 1024 cap) 1024 (accCells r)) (hR : Ring L r) (hr : r.length = 1024) (q : Nat) (hq : q = L.length % 1024) (o : Obj) :
    Noted w (((((((w.setCell ⟨g1, q * 5, none⟩ (.int .i64 (x.op : Int))).setCell ⟨g1, q * 5 + 1, none⟩ (.int .i64 (x.at_ : Int))).setCell ⟨g1, q * 5 + 2, none⟩ (.int .u64 (x.old : Int))).setCell ⟨g1, q * 5 + 3, none⟩ (.int .u64 (x.new : Int))).setCell
      ⟨g1, q * 5 + 4, none⟩ (.bool x.did)).setCell ⟨g, 0, none⟩ (.int .u64 ((L.length : Int) + 1))).alloc o).drew g L m (.slice (some ⟨g1, 0, none⟩) 1024 cap) v2 x := by
  have hgo := own_ne ho hb (by decide)
  have hne : g ≠ g1 := fun h => hgo (by simp [sb, Value.ownBlock, h])
  refine ⟨.slice (some ⟨g1, 0, none⟩) 1024 cap, r.set (L.length % 1024) x, ?_, ?_, hR.turn (by omega) x, ?_, fun k hk => .inl hk⟩
  · have := ((((((hb.far (p := ⟨g1, q * 5, none⟩) hne (.int .i64 (x.op : Int))).far (p := ⟨g1, q * 5 + 1, none⟩) hne (.int .i64 (x.at_ : Int))).far (p := ⟨g1, q * 5 + 2, none⟩) hne (.int .u64 (x.old : Int))).far (p := ⟨g1, q * 5 + 3, none⟩) hne (.int .u64 (x.new : Int))).far (p := ⟨g1, q * 5 + 4, none⟩) hne (.bool x.did)).set 0 (.int .u64 ((L.length : Int) + 1))).alloc o
    simp only [List.setIfInBounds_toArray, List.set_cons_zero] at this
    rw [Int.natCast_add, Int.natCast_one]
    exact this.drew
  · have := (own_setCell (own_set (own_set (own_set (own_set (own_set ho (q * 5) (.int .i64 (x.op : Int))) (q * 5 + 1) (.int .i64 (x.at_ : Int))) (q * 5 + 2) (.int .u64 (x.old : Int))) (q * 5 + 3) (.int .u64 (x.new : Int))) (q * 5 + 4) (.bool x.did)) ⟨g, 0, none⟩ (.int .u64 ((L.length : Int) + 1)) hgo).alloc o
    rw [accCells_set _ _ (by have := Nat.mod_lt L.length (show 0 < 1024 by omega); omega), List.length_set, hr, ← hq]
    exact own_drew this
  · have hg1 : g1 ∈ g :: sb (.slice (some ⟨g1, 0, none⟩) 1024 cap) := by simp [sb, Value.ownBlock]
    exact ((((((((Touch.refl _ w).setCell _ _ (.inl hg1)).setCell _ _ (.inl hg1)).setCell _ _ (.inl hg1)).setCell _ _ (.inl hg1)).setCell _ _ (.inl hg1)).setCell ⟨g, 0, none⟩ _ (by simp)).alloc o).drew

set_option maxHeartbeats 1000000 in
theorem note_turn (w : World) (g : Nat) (L r : List Acc) (m v1 v2 : Value) (x : Acc) (hb : Blk w g 95 #[.int .u64 (L.length : Int), v1, m, v2])
    (ho : w.ownsRow 0 157 5 v1 r.length (accCells r)) (hR : Ring L r) (hr : r.length = 1024) (hn : L.length < 4611686018427387904) :
    Calls Tryd.prog 98 #[.pointer (some ⟨g, 0, none⟩), x.val] w fun e w' => e = .returned (.tuple #[]) ∧ Noted w w' g L m v1 v2 x := by
  obtain ⟨g1, cap, cur, rfl, hcur, hc1, hc2, hc3, hc4⟩ := own_form ho (by omega)
  rw [hr] at hb ho ⊢
  have h0 := hb.cell 0
  have h1 := hb.cell 1
  have f0 := hb.frozen 0
  have f1 := hb.frozen 1
  simp at h0 h1
  have hgl := hb.lt
  have hg1 := hcur.lt
  obtain ⟨q, hq0, hq, hq1⟩ : ∃ q : Nat, Hid (q = L.length % 1024) ∧ (L.length : Int).tmod 1024 = (q : Int) ∧ q < 1024 := ⟨L.length % 1024, rfl, by rw [Int.tmod_eq_emod_of_nonneg (by omega)]; omega, Nat.mod_lt _ (by omega)⟩
  have hq2 : (q : Int) < 1024 := by omega
  have hlen : (accCells r).length = 5120 := by rw [accCells_length, hr]
  have c0 := own_cell ho (q * 5) (by omega)
  have c1 := own_cell ho (q * 5 + 1) (by omega)
  have c2 := own_cell ho (q * 5 + 2) (by omega)
  have c3 := own_cell ho (q * 5 + 3) (by omega)
  have c4 := own_cell ho (q * 5 + 4) (by omega)
  have d0 := own_frozen ho (q * 5)
  have d1 := own_frozen ho (q * 5 + 1)
  have d2 := own_frozen ho (q * 5 + 2)
  have d3 := own_frozen ho (q * 5 + 3)
  have d4 := own_frozen ho (q * 5 + 4)
  have hne : g ≠ g1 := hb.ne hcur (by decide)
  have HF := Lib.hid (fun o => noted_turn (x := x) hb ho hR hr q hq0.out o)
  clear hc4 hc3 ho hb hcur hr hR hc1 hc2
  go_enter Tryd.func98, Tryd.ntmps98
  go_wp2
  go_region
  all_goals go_wp2
  all_goals go_end0
  all_goals exact ⟨rfl, HF.out _⟩

/-- 'note': the access is the last one then. -/
theorem note_any (w : World) (g : Nat) (L r : List Acc) (m v1 v2 : Value) (x : Acc) (hb : Blk w g 95 #[.int .u64 (L.length : Int), v1, m, v2])
    (ho : w.ownsRow 0 157 5 v1 r.length (accCells r)) (hR : Ring L r) (hn : L.length < 4611686018427387904) :
    Calls Tryd.prog 98 #[.pointer (some ⟨g, 0, none⟩), x.val] w fun e w' => e = .returned (.tuple #[]) ∧ Noted w w' g L m v1 v2 x := by
  by_cases hr : r.length < 1024
  · exact note_push w g L r m v1 v2 x hb ho hR hr hn
  · exact note_turn w g L r m v1 v2 x hb ho hR (by have := hR.1; omega) hn
end Go.Proofs.YtihmbgdkllmkaaaDoor

/-
  Layer 1: 'missing', 'access' and the four accesses (cell.go) of an arena that is there: each is one access, logged.
-/
namespace Go.Proofs.YtihmbgdkllmkaaaDoor
open Go.RowKit Go.Shelf
set_option maxRecDepth 100000
set_option linter.unusedVariables false

theorem missing_no (g : Nat) (n : Nat) (w : World) (hc : w.cell? ⟨g, 2, none⟩ = some (.int .i64 (n : Int))) (h : 1 ≤ n) :
   Calls Tryd.prog 33 #[.pointer (some ⟨g, 0, none⟩)] w fun e w' => e = .returned (.bool false) ∧ w = w' := by
  have h : ((n : Int) == 0) = false := by simp; omega
  go_enter Tryd.func33, Tryd.ntmps33
  go_wp2
  go_ret
  exact ⟨rfl, rfl⟩
theorem missing_zero (g : Nat) (w : World) (hc : w.cell? ⟨g, 2, none⟩ = some (.int .i64 0)) :
   Calls Tryd.prog 33 #[.pointer (some ⟨g, 0, none⟩)] w fun e w' => e = .returned (.bool true) ∧ w = w' := by
  go_enter Tryd.func33, Tryd.ntmps33
  go_wp2
  go_ret
  exact ⟨rfl, rfl⟩
theorem missing_nil (w : World) :
   Calls Tryd.prog 33 #[.pointer none] w fun e w' => e = .returned (.bool true) ∧ w = w' := by
  go_enter Tryd.func33, Tryd.ntmps33
  go_wp2
  go_ret
  exact ⟨rfl, rfl⟩

/-- Only draws. -/
def Quiet (w w' : World) : Prop := ∃ n, w' = w.drewN n
theorem Quiet.refl (w : World) : Quiet w w := ⟨0, rfl⟩

/-- An access to cell i is done. -/
def Ar.acc (s : Ar) (op i now : Nat) (did : Bool) : Ar := { s with C := s.C.set i now, L := s.L ++ [⟨op, i, s.C.getD i 0, now, did⟩] }

/-- The arena at g is s then; only its own blocks, and new ones, have turned. -/
def ArTo (w w' : World) (g : Nat) (fp : List Nat) (s : Ar) : Prop := ∃ fp', IsAr w' g fp' s ∧ Moved fp fp' w w'

theorem wd_set {l : List Nat} (h : ∀ n ∈ l, Wd n) (i n : Nat) (hn : Wd n) : ∀ m ∈ l.set i n, Wd m := by
  intro m hm
  rcases List.mem_or_eq_of_mem_set hm with h1 | h1
  · exact h m h1
  · rw [h1]; exact hn

theorem acc_close {w wq w3 : World} {g g2 cap : Nat} {v1 : Value} {r : List Acc} {s : Ar} {i now op : Nat} {did : Bool} {was : Nat}
    (hA : ArAt w g v1 (.slice (some ⟨g2, 0, none⟩) s.C.length cap) r s) (hi : i < s.C.length) (hwas : s.C[i] = was) (hnow : Wd now) (hq : Quiet w wq)
    (hN : Noted (wq.setCell ⟨g2, i, none⟩ (.int .u64 (now : Int))) w3 g s.L (.int .i64 (s.most : Int)) v1 (.slice (some ⟨g2, 0, none⟩) s.C.length cap) ⟨op, i, was, now, did⟩) :
    ArTo w w3 g (g :: (sb v1 ++ sb (.slice (some ⟨g2, 0, none⟩) s.C.length cap))) (s.acc op i now did) := by
  obtain ⟨nq, rfl⟩ := hq
  obtain ⟨v1', r', hB, hL, hR, hT, hF⟩ := hN
  have hne : g ≠ g2 := fun h => own_ne hA.cel hA.blk (by decide) (by simp [sb, Value.ownBlock, h])
  have hc2 : ((w.drewN nq).setCell ⟨g2, i, none⟩ (.int .u64 (now : Int))).ownsRow 0 34 1 (.slice (some ⟨g2, 0, none⟩) s.C.length cap) s.C.length (words (s.C.set i now)) := by
    have := own_set (own_drewN hA.cel nq) i (.int .u64 (now : Int))
    rwa [← words_set] at this
  have h12 := own_ne2 hA.cel hA.log (by decide)
  have hc3 : w3.ownsRow 0 34 1 (.slice (some ⟨g2, 0, none⟩) s.C.length cap) s.C.length (words (s.C.set i now)) := own_touch hc2 hT (fun k hk => by
    simp only [List.mem_cons, not_or]
    refine ⟨?_, h12 k hk⟩
    rintro rfl
    exact own_ne hA.cel hA.blk (by decide) hk)
  refine ⟨g :: (sb v1' ++ sb (.slice (some ⟨g2, 0, none⟩) s.C.length cap)), ⟨v1', _, r', ⟨?_, hL, ?_, ?_, hA.most1, hA.most2, ?_, ?_⟩, rfl⟩, ?_, ?_⟩
  · simpa [Ar.acc] using hB
  · simpa [Ar.acc] using hc3
  · have : s.C.getD i 0 = was := by simp [List.getD, hi, hwas]
    simp only [Ar.acc, this]
    exact hR
  · simpa [Ar.acc] using hA.len
  · exact wd_set hA.wd i now hnow
  · refine ((((Touch.refl _ w).drewN nq).setCell ⟨g2, i, none⟩ _ (.inl ?_)).trans hT ?_)
    · simp [sb, Value.ownBlock]
    · intro k hk
      simp only [List.mem_cons] at hk
      rcases hk with rfl | hk
      · simp
      · exact .inl (by simp [hk])
  · intro k hk
    simp only [List.mem_cons, List.mem_append] at hk ⊢
    rcases hk with rfl | hk | hk
    · simp
    · rcases hF k hk with h | h
      · simp [h]
      · exact .inr (by simpa [World.setCell] using h)
    · simp [hk]

set_option maxHeartbeats 1000000 in
theorem access_did (w : World) (g : Nat) (v1 v2 : Value) (r : List Acc) (s : Ar) (op i : Nat) (fc : Nat) (caps : Array Value) (now : Nat) (hnow : Wd now) (hA : ArAt w g v1 v2 r s) (hi : i < s.C.length)
    (eg : ∀ args w, (callFunc fc args).run Tryd.prog w = .ok (.enter fc args) w)
    (hch : Calls Tryd.prog fc (#[.int .u64 (s.C[i] : Int)] ++ caps) w fun e w' => e = .returned (.tuple #[.int .u64 (now : Int), .bool true]) ∧ Quiet w w') (hn : s.L.length < 4611686018427387904) :
    Calls Tryd.prog 93 #[.pointer (some ⟨g, 0, none⟩), .int .i64 (op : Int), .int .i64 (i : Int), .func (.func fc) #[] caps] w fun e w' =>
      e = .returned (.tuple #[.int .u64 (s.C[i] : Int), .bool true, .int .i64 0]) ∧ ArTo w w' g (g :: (sb v1 ++ sb v2)) (s.acc op i now true) := by
  obtain ⟨g2, cap, cur, rfl, hcur, hc1, hc2, hc3, hc4⟩ := own_form hA.cel (by omega)
  have hci := own_cell hA.cel i (by rw [words_length]; exact hi)
  have hfi := own_frozen hA.cel i
  have h3 := hA.blk.cell 3
  have h2 := hA.blk.cell 2
  simp [words] at h3 h2 hci
  have hbd : (i : Int) < (s.C.length : Int) := by omega
  have hne : g ≠ g2 := hA.blk.ne hcur (by decide)
  have hm1 := hA.most1
  have hlen := hA.len
  have hm2 := hA.most2
  have hgl := hA.blk.lt
  have hg2 := hcur.lt
  have HC := Lib.hid hch
  obtain ⟨was, hwas⟩ : ∃ was, s.C[i] = was := ⟨_, rfl⟩
  rw [hwas] at hci HC ⊢
  have HF := Lib.hid (fun w1 w3 hq hN => acc_close (w := w) (wq := w1) (w3 := w3) (op := op) (did := true) hA hi hwas hnow hq hN)
  have HA := Lib.hid hA
  have HCu := Lib.hid hcur
  clear hch hA hc3 hc4 hwas hcur
  go_enter Tryd.func93, Tryd.ntmps93
  go_wp2_with (go_at_call 33; refine (missing_no _ _ _ h2 hm1).mono ?_; rintro e w' ⟨rfl, rfl⟩)
  refine HC.out.mono ?_
  rintro e w1 ⟨rfl, hq⟩
  have HQ := Lib.hid hq
  obtain ⟨nq, rfl⟩ := hq
  go_wp2_with fail
  refine (note_any _ g s.L r (.int .i64 (s.most : Int)) v1 (.slice (some ⟨g2, 0, none⟩) s.C.length cap) ⟨op, i, was, now, true⟩ ?_ ?_ HA.out.ring hn).mono ?_
  · exact Blk.drewN (HA.out.blk.far hne _) nq
  · exact own_drewN (own_setCell HA.out.log ⟨g2, i, none⟩ _ (fun h => (own_ne2 HA.out.log HA.out.cel (by decide)) g2 h (by simp [sb, Value.ownBlock]))) nq
  rintro e w3 ⟨rfl, hN⟩
  have HN := Lib.hid hN
  clear hN
  go_wp2
  refine bodyPost_ret (v := .tuple #[.int .u64 (was : Int), .bool true, .int .i64 0]) (by simp [results, go_sem]) rfl ⟨rfl, HF.out _ _ HQ.out HN.out⟩
set_option maxHeartbeats 1000000 in
theorem access_not (w : World) (g : Nat) (v1 v2 : Value) (r : List Acc) (s : Ar) (op i : Nat) (fc : Nat) (caps : Array Value) (now0 : Nat) (hA : ArAt w g v1 v2 r s) (hi : i < s.C.length)
    (eg : ∀ args w, (callFunc fc args).run Tryd.prog w = .ok (.enter fc args) w)
    (hch : Calls Tryd.prog fc (#[.int .u64 (s.C[i] : Int)] ++ caps) w fun e w' => e = .returned (.tuple #[.int .u64 (now0 : Int), .bool false]) ∧ Quiet w w') (hn : s.L.length < 4611686018427387904) :
    Calls Tryd.prog 93 #[.pointer (some ⟨g, 0, none⟩), .int .i64 (op : Int), .int .i64 (i : Int), .func (.func fc) #[] caps] w fun e w' =>
      e = .returned (.tuple #[.int .u64 (s.C[i] : Int), .bool false, .int .i64 0]) ∧ ArTo w w' g (g :: (sb v1 ++ sb v2)) (s.acc op i s.C[i] false) := by
  obtain ⟨g2, cap, cur, rfl, hcur, hc1, hc2, hc3, hc4⟩ := own_form hA.cel (by omega)
  have hci := own_cell hA.cel i (by rw [words_length]; exact hi)
  have hfi := own_frozen hA.cel i
  have h3 := hA.blk.cell 3
  have h2 := hA.blk.cell 2
  simp [words] at h3 h2 hci
  have hbd : (i : Int) < (s.C.length : Int) := by omega
  have hne : g ≠ g2 := hA.blk.ne hcur (by decide)
  have hm1 := hA.most1
  have hlen := hA.len
  have hm2 := hA.most2
  have hgl := hA.blk.lt
  have hg2 := hcur.lt
  have HC := Lib.hid hch
  obtain ⟨was, hwas⟩ : ∃ was, s.C[i] = was := ⟨_, rfl⟩
  rw [hwas] at hci HC ⊢
  have HF := Lib.hid (fun w1 w3 hq hN => acc_close (w := w) (wq := w1) (w3 := w3) (op := op) (did := false) (now := was) hA hi hwas (hwas ▸ hA.wd _ (List.getElem_mem hi)) hq hN)
  have HA := Lib.hid hA
  have HCu := Lib.hid hcur
  clear hch hA hc3 hc4 hwas hcur
  go_enter Tryd.func93, Tryd.ntmps93
  go_wp2_with (go_at_call 33; refine (missing_no _ _ _ h2 hm1).mono ?_; rintro e w' ⟨rfl, rfl⟩)
  refine HC.out.mono ?_
  rintro e w1 ⟨rfl, hq⟩
  have HQ := Lib.hid hq
  obtain ⟨nq, rfl⟩ := hq
  go_wp2_with fail
  refine (note_any _ g s.L r (.int .i64 (s.most : Int)) v1 (.slice (some ⟨g2, 0, none⟩) s.C.length cap) ⟨op, i, was, was, false⟩ ?_ ?_ HA.out.ring hn).mono ?_
  · exact Blk.drewN (HA.out.blk.far hne _) nq
  · exact own_drewN (own_setCell HA.out.log ⟨g2, i, none⟩ _ (fun h => (own_ne2 HA.out.log HA.out.cel (by decide)) g2 h (by simp [sb, Value.ownBlock]))) nq
  rintro e w3 ⟨rfl, hN⟩
  have HN := Lib.hid hN
  clear hN
  go_wp2
  refine bodyPost_ret (v := .tuple #[.int .u64 (was : Int), .bool false, .int .i64 0]) (by simp [results, go_sem]) rfl ⟨rfl, HF.out _ _ HQ.out HN.out⟩

set_option maxHeartbeats 1000000 in
theorem access_out (w : World) (g : Nat) (v1 v2 : Value) (r : List Acc) (s : Ar) (op : Int) (at_ : Int) (f : Value) (hA : ArAt w g v1 v2 r s) (hi : at_ < 0 ∨ (s.C.length : Int) ≤ at_) :
    Calls Tryd.prog 93 #[.pointer (some ⟨g, 0, none⟩), .int .i64 op, .int .i64 at_, f] w fun e w' =>
      e = .returned (.tuple #[.int .u64 0, .bool false, .int .i64 4]) ∧ w = w' := by
  obtain ⟨a2, cap, rfl, hc1, hc2⟩ := own_val hA.cel
  have h3 := hA.blk.cell 3
  have h2 := hA.blk.cell 2
  simp at h3 h2
  have hm1 := hA.most1
  clear hA
  rcases hi with hi | hi
  · go_enter Tryd.func93, Tryd.ntmps93
    go_wp2_with (go_at_call 33; refine (missing_no _ _ _ h2 hm1).mono ?_; rintro e w' ⟨rfl, rfl⟩)
    refine bodyPost_ret (v := .tuple #[.int .u64 0, .bool false, .int .i64 4]) (by simp [results, go_sem]) rfl ⟨rfl, rfl⟩
  · have hi0 : ¬ at_ < 0 := by omega
    go_enter Tryd.func93, Tryd.ntmps93
    go_wp2_with (go_at_call 33; refine (missing_no _ _ _ h2 hm1).mono ?_; rintro e w' ⟨rfl, rfl⟩)
    refine bodyPost_ret (v := .tuple #[.int .u64 0, .bool false, .int .i64 4]) (by simp [results, go_sem]) rfl ⟨rfl, rfl⟩

/-- No arena: nil, or one that was not made by New. -/
def NoAr (w : World) (p : Value) : Prop := p = .pointer none ∨ ∃ g, p = .pointer (some ⟨g, 0, none⟩) ∧ w.cell? ⟨g, 2, none⟩ = some (.int .i64 0)
theorem missing_yes (p : Value) (w : World) (h : NoAr w p) : Calls Tryd.prog 33 #[p] w fun e w' => e = .returned (.bool true) ∧ w = w' := by
  rcases h with rfl | ⟨g, rfl, hc⟩
  · exact missing_nil w
  · exact missing_zero g w hc

theorem access_none (w : World) (p : Value) (op : Int) (at_ : Int) (f : Value) (h : NoAr w p) :
    Calls Tryd.prog 93 #[p, .int .i64 op, .int .i64 at_, f] w fun e w' => e = .returned (.tuple #[.int .u64 0, .bool false, .int .i64 1]) ∧ w = w' := by
  go_enter Tryd.func93, Tryd.ntmps93
  go_wp2_with (go_at_call 33; refine (missing_yes _ _ h).mono ?_; rintro e w' ⟨rfl, rfl⟩)
  refine bodyPost_ret (v := .tuple #[.int .u64 0, .bool false, .int .i64 1]) (by simp [results, go_sem]) rfl ⟨rfl, rfl⟩
end Go.Proofs.YtihmbgdkllmkaaaDoor

/-
  Layer 1: Load, Store, Swap, Add, Len, Most, Count, New (cell.go) at the plain model: for every arena that was made by New, and for none.
-/
namespace Go.Proofs.YtihmbgdkllmkaaaDoor
open Go.RowKit Go.Shelf
set_option maxRecDepth 100000
set_option linter.unusedVariables false

/-- One access by a change: the arena then, the access, an error. -/
def Ar.doBy (s : Ar) (op : Nat) (at_ : Int) (chg : Nat → Nat × Bool) : Ar × Acc × Nat :=
  if 0 ≤ at_ ∧ at_ < (s.C.length : Int) then
    (s.acc op at_.toNat (if (chg (s.C.getD at_.toNat 0)).2 then (chg (s.C.getD at_.toNat 0)).1 else s.C.getD at_.toNat 0) (chg (s.C.getD at_.toNat 0)).2,
     ⟨op, at_.toNat, s.C.getD at_.toNat 0, if (chg (s.C.getD at_.toNat 0)).2 then (chg (s.C.getD at_.toNat 0)).1 else s.C.getD at_.toNat 0, (chg (s.C.getD at_.toNat 0)).2⟩, 0)
  else (s, Acc.zero, 4)
def chgLoad (was : Nat) : Nat × Bool := (was, true)
def chgStore (v : Nat) (_ : Nat) : Nat × Bool := (v, true)
def chgSwap (old new : Nat) (was : Nat) : Nat × Bool := (new, was == old)
def chgAdd (n : Nat) (was : Nat) : Nat × Bool := ((was + n) % 18446744073709551616, true)
def Ar.load (s : Ar) (at_ : Int) := s.doBy 1 at_ chgLoad
def Ar.store (s : Ar) (at_ : Int) (v : Nat) := s.doBy 2 at_ (chgStore v)
def Ar.swap (s : Ar) (at_ : Int) (old new : Nat) := s.doBy 3 at_ (chgSwap old new)
def Ar.add (s : Ar) (at_ : Int) (n : Nat) := s.doBy 4 at_ (chgAdd n)

/-- What an access answers, and what it leaves. -/
def Did (w w' : World) (g : Nat) (fp : List Nat) (d : Ar × Acc × Nat) (e : Ending) : Prop :=
  e = .returned (.tuple #[.int .u64 (d.2.1.old : Int), .bool d.2.1.did, .int .i64 (d.2.2 : Int)]) ∧ ArTo w w' g fp d.1

theorem ArTo.refl {w : World} {g : Nat} {fp : List Nat} {s : Ar} (h : IsAr w g fp s) : ArTo w w g fp s := ⟨fp, h, Moved.refl _ _⟩

theorem access_any (w : World) (g : Nat) (fp : List Nat) (s : Ar) (op : Nat) (at_ : Int) (fc : Nat) (caps : Array Value) (chg : Nat → Nat × Bool) (hI : IsAr w g fp s)
    (eg : ∀ args w, (callFunc fc args).run Tryd.prog w = .ok (.enter fc args) w) (hwd : ∀ was, Wd was → Wd (chg was).1)
    (hch : ∀ was, Wd was → Calls Tryd.prog fc (#[.int .u64 (was : Int)] ++ caps) w fun e w' => e = .returned (.tuple #[.int .u64 ((chg was).1 : Int), .bool (chg was).2]) ∧ Quiet w w') (hn : s.L.length < 4611686018427387904) :
    Calls Tryd.prog 93 #[.pointer (some ⟨g, 0, none⟩), .int .i64 (op : Int), .int .i64 at_, .func (.func fc) #[] caps] w fun e w' => Did w w' g fp (s.doBy op at_ chg) e := by
  obtain ⟨v1, v2, r, hA, rfl⟩ := hI
  by_cases hin : 0 ≤ at_ ∧ at_ < (s.C.length : Int)
  · obtain ⟨i, rfl⟩ := Int.eq_ofNat_of_zero_le hin.1
    have hi : i < s.C.length := by omega
    have hg : s.C.getD i 0 = s.C[i] := by simp [List.getD, hi]
    have hw := hA.wd _ (List.getElem_mem hi)
    have hd : s.doBy op (i : Int) chg = (s.acc op i (if (chg s.C[i]).2 then (chg s.C[i]).1 else s.C[i]) (chg s.C[i]).2, ⟨op, i, s.C[i], if (chg s.C[i]).2 then (chg s.C[i]).1 else s.C[i], (chg s.C[i]).2⟩, 0) := by
      simp only [Ar.doBy, if_pos hin, Int.toNat_natCast, hg]
    rw [hd]
    cases hb : (chg s.C[i]).2 with
    | true =>
      refine (access_did w g v1 v2 r s op i fc caps (chg s.C[i]).1 (hwd _ hw) hA hi eg ?_ hn).mono ?_
      · have := hch s.C[i] hw
        rwa [hb] at this
      · rintro e w' ⟨rfl, h⟩
        exact ⟨rfl, by simpa using h⟩
    | false =>
      refine (access_not w g v1 v2 r s op i fc caps (chg s.C[i]).1 hA hi eg ?_ hn).mono ?_
      · have := hch s.C[i] hw
        rwa [hb] at this
      · rintro e w' ⟨rfl, h⟩
        exact ⟨rfl, by simpa using h⟩
  · have hd : s.doBy op at_ chg = (s, Acc.zero, 4) := by simp only [Ar.doBy, if_neg hin]
    rw [hd]
    refine (access_out w g v1 v2 r s op at_ _ hA (by omega)).mono ?_
    rintro e w' ⟨rfl, rfl⟩
    exact ⟨rfl, ArTo.refl ⟨v1, v2, r, hA, rfl⟩⟩

theorem swap_val (was old new : Nat) (h : Wd was) (h' : Wd old) : Ending.returned (.tuple #[.int .u64 (new : Int), .bool ((was : Int) == (old : Int))]) = .returned (.tuple #[.int .u64 ((chgSwap old new was).1 : Int), .bool (chgSwap old new was).2]) := by
  have : ((was : Int) == (old : Int)) = (was == old) := by rw [Bool.eq_iff_iff]; simp; omega
  rw [this]; rfl
theorem swap_fn (was old new b c : Nat) (w : World) (hw : Wd was) (ho : Wd old) (hb : w.cell? ⟨b, 0, none⟩ = some (.int .u64 (new : Int))) (hc : w.cell? ⟨c, 0, none⟩ = some (.int .u64 (old : Int))) :
    Calls Tryd.prog 94 #[.int .u64 (was : Int), .pointer (some ⟨b, 0, none⟩), .pointer (some ⟨c, 0, none⟩)] w fun e w' => e = .returned (.tuple #[.int .u64 ((chgSwap old new was).1 : Int), .bool (chgSwap old new was).2]) ∧ Quiet w w' := by
  have H := Lib.hid (swap_val was old new hw ho)
  go_enter Tryd.func94, Tryd.ntmps94
  go_wp2
  go_quiet (fail)
  go_wp2
  go_ret2
  refine ⟨?_, ?_⟩
  · rw [← H.out]; simp
  · exact ⟨_, rfl⟩
theorem add_val (was n : Nat) (h : Wd was) (h' : Wd n) : IntKind.u64.wrap ((was : Int) + (n : Int)) = ((chgAdd n was).1 : Int) := by
  simp only [chgAdd, IntKind.wrap_u64]
  omega
theorem ArTo.of_touch {w w1 w' : World} {g : Nat} {fp : List Nat} {s : Ar} (ht : Touch [] w w1) (h : ArTo w1 w' g fp s) : ArTo w w' g fp s := by
  obtain ⟨fp', hI, hm⟩ := h
  exact ⟨fp', hI, (ht.mono (by simp)).trans hm.touch (fun k hk => .inl hk), fun k hk => (hm.fp k hk).imp id (fun h => Nat.le_trans ht.size h)⟩
theorem ArTo.then {w w1 : World} {g : Nat} {fp : List Nat} {s : Ar} (h : ArTo w w1 g fp s) {w' : World} (ht : Touch [] w1 w') : ArTo w w' g fp s := by
  obtain ⟨fp', hI, hm⟩ := h
  exact ⟨fp', hI.touch ht (by simp), hm.touch.trans ht (by simp), hm.fp⟩

section
variable (w : World) (g : Nat) (fp : List Nat) (s : Ar) (at_ : Int) (hI : IsAr w g fp s) (hn : s.L.length < 4611686018427387904)
include hI hn
theorem Swap_any (old new : Nat) (ho : Wd old) (hw : Wd new) : Calls Tryd.prog 87 #[.pointer (some ⟨g, 0, none⟩), .int .i64 at_, .int .u64 (old : Int), .int .u64 (new : Int)] w fun e w' =>
    e = .returned (.tuple #[.int .u64 ((s.swap at_ old new).2.1.old : Int), .bool (s.swap at_ old new).2.1.did, .int .i64 ((s.swap at_ old new).2.2 : Int)]) ∧ ArTo w w' g fp (s.swap at_ old new).1 := by
  have H := Lib.hid (access_any ((w.alloc (.cells #[.int .u64 (old : Int)] 34)).alloc (.cells #[.int .u64 (new : Int)] 34)) g fp s 3 at_ 94 #[.pointer (some ⟨w.heap.size + 1, 0, none⟩), .pointer (some ⟨w.heap.size, 0, none⟩)] (chgSwap old new) ((hI.alloc _).alloc _)
    (enters_of Tryd.func94 (by kernel_rfl) rfl) (fun _ _ => hw) (fun was hwas => swap_fn was old new _ _ _ hwas ho (by simp) (by simp)) hn)
  have HT := Lib.hid (((Touch.refl [] w).alloc (.cells #[.int .u64 (old : Int)] 34)).alloc (.cells #[.int .u64 (new : Int)] 34))
  clear hI hn
  go_enter Tryd.func87, Tryd.ntmps87
  go_wp2_with fail
  refine H.out.mono ?_
  rintro e w' ⟨rfl, h⟩
  have H2 := Lib.hid h
  clear h
  go_wp2
  refine bodyPost_ret (v := .tuple #[.int .u64 ((s.swap at_ old new).2.1.old : Int), .bool (s.swap at_ old new).2.1.did, .int .i64 ((s.swap at_ old new).2.2 : Int)]) (by simp [results, go_sem, Ar.swap]) rfl ⟨rfl, H2.out.of_touch HT.out⟩
end

section
variable (w : World) (g : Nat) (fp : List Nat) (s : Ar) (hI : IsAr w g fp s)
include hI
theorem Count_any : Calls Tryd.prog 11 #[.pointer (some ⟨g, 0, none⟩)] w fun e w' => e = .returned (.int .u64 (s.L.length : Int)) ∧ w = w' := by
  obtain ⟨v1, v2, r, hA, rfl⟩ := hI
  have h2 := hA.blk.cell 2
  have h0 := hA.blk.cell 0
  simp at h2 h0
  have hm1 := hA.most1
  clear hA
  go_enter Tryd.func11, Tryd.ntmps11
  go_wp2_with (go_at_call 33; refine (missing_no _ _ _ h2 hm1).mono ?_; rintro e w' ⟨rfl, rfl⟩)
  go_ret
  exact ⟨rfl, rfl⟩
end

/-- What New makes. -/
def Ar.fresh (most : Nat) : Ar := ⟨[], most, []⟩
theorem New_ok (most : Nat) (w : World) (h1 : 1 ≤ most) (h2 : most ≤ 65536) : Calls Tryd.prog 8 #[.int .i64 (most : Int)] w fun e w' =>
   e = .returned (.tuple #[.pointer (some ⟨w.heap.size, 0, none⟩), .int .i64 0]) ∧ IsAr w' w.heap.size [w.heap.size] (Ar.fresh most) ∧ Touch [] w w' := by
  go_enter Tryd.func8, Tryd.ntmps8
  go_wp2
  go_ret2
  exact ⟨rfl, ⟨.slice none 0 0, .slice none 0 0, [], ⟨Blk.new _ _ _, World.ownsRow_nil _ _ _ _, World.ownsRow_nil _ _ _ _, Ring.nil, h1, h2, Nat.zero_le _, by simp [Ar.fresh]⟩, rfl⟩, (Touch.refl [] w).alloc _⟩
theorem New_no (most : Int) (w : World) (h : most < 1 ∨ 65536 < most) : Calls Tryd.prog 8 #[.int .i64 most] w fun e w' =>
   e = .returned (.tuple #[.pointer none, .int .i64 2]) ∧ w = w' := by
  rcases h with h | h
  · go_enter Tryd.func8, Tryd.ntmps8
    go_wp2
    go_ret2
    exact ⟨rfl, rfl⟩
  · have h' : ¬ most < 1 := by omega
    go_enter Tryd.func8, Tryd.ntmps8
    go_wp2
    go_ret2
    exact ⟨rfl, rfl⟩
end Go.Proofs.YtihmbgdkllmkaaaDoor

/-
  'append(s, make([]T, k)...)' onto a row that s owns, T of one cell: no program is in sight.
-/
namespace Go.Proofs.YtihmbgdkllmkaaaDoor
open Go.RowKit

theorem zeroCells_one (z : Value) (k : Nat) : (Builtin.zeroCells #[z] k) = (List.replicate k z).toArray := by
  apply Array.ext
  · simp [Builtin.zeroCells]
  · intro i h1 h2
    simp [Builtin.zeroCells, Nat.mod_one]

theorem run_append_zeros {P : Program} (w : World) (t tn ty e : TypeId) (i : TypeInfo) (z : Value) (kq kn : IntKind) (ht : P.underlying t = some (.slice e)) (htn : P.underlying tn = some (.int kn)) (hi : P.info? e = some i) (hz : i.zero = some z)
    (hsize : i.size = 1) (hby : i.bytes = 8) (hzs : z.cells = #[z]) (h1 : z.oneCell' = true)
    (v : Value) (n : Nat) (xs : List Value) (hown : w.ownsRow 0 e 1 v n xs) (k : Nat) (hk : n + k ≤ 1048576) :
    ∃ v' w', (Builtin.append_ #[t, tn] ty #[v, .int kq (k : Int)]).run P w = .ok v' w' ∧ w'.ownsRow 0 e 1 v' (n + k) (xs ++ List.replicate k z) ∧ w.grownBy w' v.ownBlock ∧
      (v'.ownBlock = v.ownBlock ∨ v'.ownBlock = some w.heap.size) := by
  have hw : IntKind.i64.wrap (k : Int) = k := by rw [IntKind.wrap_i64]; omega
  have hneg : ¬ ((k : Int) < 0) := by omega
  have h48i : ¬ (281474976710656 < (k : Int) * 8) := by omega
  have hxl : xs.length = n := by simpa using hown.1
  have grown : ∀ (old : Nat), old < n + k → ∀ (row : Option Nat),
      (w.drew.alloc (.cells (xs.toArray ++ Builtin.zeroCells z.cells k ++ Builtin.zeroCells z.cells (grownCap w (n + k) old e - (n + k))) e)).ownsRow 0 e 1
        (.slice (some ⟨w.heap.size, 0, none⟩) (n + k) (grownCap w (n + k) old e)) (n + k) (xs ++ List.replicate k z) ∧
      w.grownBy (w.drew.alloc (.cells (xs.toArray ++ Builtin.zeroCells z.cells k ++ Builtin.zeroCells z.cells (grownCap w (n + k) old e - (n + k))) e)) row := by
    intro old ho row
    have hge := grownCap_ge w (n + k) old e
    have hcm : grownCap w (n + k) old e ≤ maxLen := grownCap_le_maxLen w (n + k) old e (by simp only [maxLen]; omega)
    refine ⟨⟨by simp [hxl], .inr ⟨w.heap.size, _, _, rfl, Nat.zero_le _, heap_alloc_new w.drew _, hge, hcm, ?_, ?_⟩⟩, ⟨rfl, rfl, rfl, by simp, fun k hk _ => Below.heap_alloc w.drew _ k hk⟩⟩
    · simp only [hzs, zeroCells_one, Array.size_append, List.size_toArray, List.length_replicate, hxl]
      omega
    · simp only [hzs, zeroCells_one, Array.toList_append]
      rw [List.take_left' (by simp [hxl])]
  rcases hown.2 with ⟨rfl, rfl⟩ | ⟨g, cap, cur, rfl, hbg, hg, hnc, hcm, hcs, htake⟩
  · have hx : xs = [] := List.eq_nil_of_length_eq_zero hxl
    subst hx
    by_cases hm : k = 0
    · subst hm
      refine ⟨.slice none 0 0, w, ?_, World.ownsRow_nil w 0 e 1, World.grownBy.refl w _, .inl rfl⟩
      simp [Builtin.append_, run_underlying ht, run_underlying htn, sizeOf, typeInfo, hi, asInt, asIntOf, IntKind.wrap_i64]
    · have hr := Lib.run_append_nil_zeros (P := P) w t tn ty e i z kq kn ht htn hi hz k (by omega) (by omega) (by omega) (by rw [hby]; omega)
      have hgr := grown 0 (by omega) (Value.ownBlock (.slice none 0 0))
      simp only [Nat.zero_add, List.nil_append, Array.empty_append] at hgr ⊢
      exact ⟨_, _, hr, hgr.1, hgr.2, .inr rfl⟩
  · by_cases hroom : n + k ≤ cap
    · have hrep : ∀ u ∈ List.replicate k z, u.oneCell' = true := fun u hu => by rw [List.eq_of_mem_replicate hu]; exact h1
      have hst := run_storeCells_at P g n e (List.replicate k z) 0 cur w hg (by simp; omega) hrep
      simp only [Nat.add_zero] at hst
      have hr : (Builtin.append_ #[t, tn] ty #[.slice (some ⟨g, 0, none⟩) n cap, .int kq (k : Int)]).run P w = .ok (.slice (some ⟨g, 0, none⟩) (n + k) cap) (w.setRow g (cur.toList.take n ++ List.replicate k z ++ cur.toList.drop (n + k)).toArray) := by
        by_cases hm : k = 0
        · subst hm
          have hself := setRow_self w g cur e (0, 0) hg
          simp [Builtin.append_, run_underlying ht, run_underlying htn, sizeOf, typeInfo, hi, asInt, asIntOf, IntKind.wrap_i64, hnc, storeCells]
          exact hself.symm
        · simp only [List.length_replicate] at hst
          simp [Builtin.append_, run_underlying ht, run_underlying htn, sizeOf, typeInfo, zeroValue, hi, hz, asInt, asIntOf, hw, hneg, hby, h48i, hroom, hsize, hm, Addr.add_lit, hzs, zeroCells_one, hst]
      refine ⟨_, _, hr, ⟨by simp [hxl], .inr ⟨g, cap, _, rfl, hbg, setRow_heap w g cur _ e _ hg, hroom, hcm, ?_, ?_⟩⟩, ⟨rfl, rfl, rfl, by simp, fun j _ hj => setRow_other w g j _ (fun e => hj (by simp [Value.ownBlock, e]))⟩, .inl rfl⟩
      · simp only [List.size_toArray, List.length_append, List.length_take, List.length_drop, Array.length_toList, List.length_replicate]
        omega
      · have ht' : cur.toList.take n = xs := by simpa using htake
        rw [ht']
        simp only [Nat.mul_one]
        rw [List.take_left' (by simp [hxl])]
    · have holds : ∀ j u, xs[j]? = some u → w.drew.cell? ((⟨g, 0, none⟩ : Addr).add j) = some u := hown.cells (g := g) rfl
      have hr := Lib.run_append_grow_zeros (P := P) w t tn ty e i z kq kn ht htn hi hz (some ⟨g, 0, none⟩) n cap xs (run_firstCells_some w.drew i.size n _ _ _ xs (by rw [hsize]; simpa using hxl) holds) k (by omega) (by omega) (by omega) (by omega) (by rw [hby]; omega) (growslice_fits (by omega) (by rw [hby]; omega))
      have hgr := grown cap (by omega) (Value.ownBlock (.slice (some ⟨g, 0, none⟩) n cap))
      exact ⟨_, _, hr, hgr.1, hgr.2, .inr rfl⟩

/-- At the operation, in a plain region. -/
theorem wpList_append_zeros {P : Program} (w : World) {ops : Array Oper} {rest : List Oper} {o : Oper} {a : Act} {Q : Exit → Act → World → Prop} (hgd : o.guard = none) (s x : Operand) (t tn : TypeId)
    (ho : o.op = .call { callee := .builtin .append, args := #[s, x], argTypes := #[t, tn] })
    (e : TypeId) (i : TypeInfo) (z : Value) (kq kn : IntKind) (ht : P.underlying t = some (.slice e)) (htn : P.underlying tn = some (.int kn)) (hi : P.info? e = some i) (hz : i.zero = some z)
    (hsize : i.size = 1) (hby : i.bytes = 8) (hzs : z.cells = #[z]) (h1 : z.oneCell' = true)
    (v : Value) (n : Nat) (xs : List Value) (hs : a.eval s = v) (hown : w.ownsRow 0 e 1 v n xs) (k : Nat) (hx : a.eval x = .int kq (k : Int)) (hk : n + k ≤ 1048576)
    (h : ∀ aa cap w', w'.ownsRow 0 e 1 (.slice aa (n + k) cap) (n + k) (xs ++ List.replicate k z) → w.grownBy w' v.ownBlock → ((Value.slice aa (n + k) cap).ownBlock = v.ownBlock ∨ (Value.slice aa (n + k) cap).ownBlock = some w.heap.size) → wpList P ops Q rest (a.put o.dst (.slice aa (n + k) cap)) w') :
    wpList P ops Q (o :: rest) a w := by
  obtain ⟨v', w', hr, h2, h3, h4⟩ := run_append_zeros (P := P) w t tn o.type e i z kq kn ht htn hi hz hsize hby hzs h1 v n xs hown k hk
  obtain ⟨aa, cap, rfl, _, _⟩ := own_val h2
  exact Lib.wpList_append_run w hgd s x t tn ho v _ hs hx _ w' hr (h aa cap w' h2 h3 h4)
end Go.Proofs.YtihmbgdkllmkaaaDoor

/-
  Layer 1: Alloc (cell.go): for every arena that was made by New.
-/
namespace Go.Proofs.YtihmbgdkllmkaaaDoor
open Go.RowKit Go.Shelf
set_option maxRecDepth 100000
set_option linter.unusedVariables false

theorem info_uint64 : (Tryd.prog.info? 34).map (fun i => (i.zero, i.size, i.bytes)) = some (some (.int .u64 0), 1, 8) := by kernel_rfl

/-- Alloc: the arena then, the place, an error. -/
def Ar.allocA (s : Ar) (n : Int) : Ar × Nat × Nat :=
  if n < 0 then (s, 0, 2) else if (s.most : Int) - (s.C.length : Int) < n then (s, 0, 6) else ({ s with C := s.C ++ List.replicate n.toNat 0 }, s.C.length, 0)

theorem words_replicate (k : Nat) : words (List.replicate k 0) = List.replicate k (.int .u64 0) := by simp [words]

theorem alloc_close {w w0 w1 : World} {g k : Nat} {v1 v2 v' : Value} {r : List Acc} {s : Ar} (hA : ArAt w g v1 v2 r s) (hq : Quiet w w0) (hk : s.C.length + k ≤ s.most)
    (hown : w1.ownsRow 0 34 1 v' (s.C.length + k) (words s.C ++ List.replicate k (.int .u64 0))) (hgrow : w0.grownBy w1 v2.ownBlock) (hat : v'.ownBlock = v2.ownBlock ∨ v'.ownBlock = some w0.heap.size) :
    ArTo w (w1.setCell ⟨g, 3, none⟩ v') g (g :: (sb v1 ++ sb v2)) { s with C := s.C ++ List.replicate k 0 } := by
  obtain ⟨nq, rfl⟩ := hq
  have hgn : some g ≠ v2.ownBlock := fun h => own_ne hA.cel hA.blk (by decide) (by simp [sb, ← h])
  have B1 := (hA.blk.drewN nq).grown hgrow hgn
  have hgo := own_ne hown B1 (by decide)
  have h12 := own_ne2 hA.log hA.cel (by decide)
  have hT : Touch (g :: (sb v1 ++ sb v2)) w w1 := ((Touch.refl _ w).drewN nq).grown hgrow (fun j hj => .inl (by simp [sb, hj]))
  have hL : w1.ownsRow 0 157 5 v1 r.length (accCells r) := own_keep (own_drewN hA.log nq) (fun j hj => hgrow.block j (own_lt hA.log j hj) (fun h => h12 j hj (by simp [sb, ← h])))
  refine ⟨g :: (sb v1 ++ sb v'), ⟨v1, v', r, ⟨?_, ?_, ?_, hA.ring, hA.most1, hA.most2, ?_, ?_⟩, rfl⟩, hT.setCell _ _ (.inl (by simp)), ?_⟩
  · have := B1.set 3 v'
    simpa using this
  · exact own_setCell hL _ _ (own_ne hL B1 (by decide))
  · have := own_setCell hown ⟨g, 3, none⟩ v' hgo
    rw [words_append, words_replicate]
    simpa using this
  · simp; omega
  · intro n hn
    rcases List.mem_append.1 hn with h | h
    · exact hA.wd n h
    · rw [List.eq_of_mem_replicate h]; unfold Wd; omega
  · intro j hj
    simp only [List.mem_cons, List.mem_append] at hj ⊢
    rcases hj with h | h | h
    · exact .inl (.inl h)
    · exact .inl (.inr (.inl h))
    · rcases hat with h2 | h2
      · exact .inl (.inr (.inr (by simpa [sb, h2] using h)))
      · have : j = w.heap.size := by simpa [sb, h2] using h
        exact .inr (by omega)

set_option maxHeartbeats 1000000 in
theorem Alloc_any (w : World) (g : Nat) (fp : List Nat) (s : Ar) (n : Int) (hI : IsAr w g fp s) : Calls Tryd.prog 47 #[.pointer (some ⟨g, 0, none⟩), .int .i64 n] w fun e w' =>
    e = .returned (.tuple #[.int .i64 ((s.allocA n).2.1 : Int), .int .i64 ((s.allocA n).2.2 : Int)]) ∧ ArTo w w' g fp (s.allocA n).1 := by
  obtain ⟨i0, hi, hz0, hz1, hz2⟩ := info_parts info_uint64
  have hR := Lib.hid (fun (w' : World) (hq : Quiet w w') => show ArTo w w' g fp s from (by obtain ⟨k, rfl⟩ := hq; exact ⟨fp, hI.drewN k, (Moved.refl _ _).drewN k⟩))
  obtain ⟨v1, v2, r, hA, rfl⟩ := hI
  obtain ⟨a2, cap, rfl, hc1, hc2⟩ := own_val hA.cel
  have h3 := hA.blk.cell 3
  have h2 := hA.blk.cell 2
  have f3 := hA.blk.frozen 3
  simp at h3 h2
  have hm1 := hA.most1
  have hm2 := hA.most2
  have hle := hA.len
  have hgl := hA.blk.lt
  have HA := Lib.hid hA
  clear hA
  by_cases hn : n < 0
  · have hv : s.allocA n = (s, 0, 2) := by simp [Ar.allocA, hn]
    rw [hv]
    go_enter Tryd.func47, Tryd.ntmps47
    go_wp2_with (go_at_call 33; refine (missing_no _ _ _ h2 hm1).mono ?_; rintro e w' ⟨rfl, rfl⟩)
    go_ret2
    exact ⟨rfl, hR.out _ (Quiet.refl w)⟩
  · by_cases hf : (s.most : Int) - (s.C.length : Int) < n
    · have hv : s.allocA n = (s, 0, 6) := by simp [Ar.allocA, hn, hf]
      rw [hv]
      go_enter Tryd.func47, Tryd.ntmps47
      go_wp2_with (go_at_call 33; refine (missing_no _ _ _ h2 hm1).mono ?_; rintro e w' ⟨rfl, rfl⟩)
      go_quiet (fail)
      go_wp2
      go_ret2
      exact ⟨rfl, hR.out _ ⟨_, rfl⟩⟩
    · obtain ⟨k, rfl⟩ := Int.eq_ofNat_of_zero_le (Int.not_lt.1 hn)
      have hv : s.allocA (k : Int) = ({ s with C := s.C ++ List.replicate k 0 }, s.C.length, 0) := by simp [Ar.allocA, hn, hf]
      rw [hv]
      have hk : s.C.length + k ≤ s.most := by omega
      have hcel := HA.out.cel
      have HC := Lib.hid hcel
      have hgn : some g ≠ (Value.slice a2 s.C.length cap).ownBlock := fun h => own_ne hcel HA.out.blk (by decide) (by simp [sb, ← h])
      have HG := Lib.hid hgn
      clear hv hcel hgn
      go_enter Tryd.func47, Tryd.ntmps47
      go_wp2_with (go_at_call 33; refine (missing_no _ _ _ h2 hm1).mono ?_; rintro e w' ⟨rfl, rfl⟩)
      go_quiet (fail)
      go_wp2_with (at_builtin; refine wpList_append_zeros _ rfl (.tmp 31) (.tmp 32) 52 3 rfl 34 i0 (.int .u64 0) .i64 .i64 Tryd.underlying52 Tryd.underlying3 hi hz0 hz1 hz2 rfl rfl _ _ _ rfl (own_drewN HC.out _) k rfl (by omega) ?_; intro aa cap' w1 hown hgrow hat; have B1 := (HA.out.blk.drewN _).grown hgrow HG.out; have k3 := B1.cell 3; have e3 := B1.frozen 3; simp at k3; have H1 := Lib.hid hown; have H2 := Lib.hid hgrow; have H3 := Lib.hid hat; clear hown hgrow hat B1)
      go_ret2
      exact ⟨rfl, alloc_close HA.out ⟨_, rfl⟩ hk H1.out H2.out H3.out⟩
end Go.Proofs.YtihmbgdkllmkaaaDoor

/-
  Layer 3: New, Try, Free, Held (spin.go), at the plain model: for every arena that was made by New.
-/
namespace Go.Proofs.YtihmbgdkllmkaaaDoor
open Go.RowKit Go.Shelf
set_option maxRecDepth 100000
set_option linter.unusedVariables false

theorem wd0 : Wd 0 := by unfold Wd; omega
theorem wd1 : Wd 1 := by unfold Wd; omega

theorem doBy_err (s : Ar) (op : Nat) (at_ : Int) (chg : Nat → Nat × Bool) : (s.doBy op at_ chg).2.2 = 0 ∨ (s.doBy op at_ chg).2.2 = 4 ∧ (s.doBy op at_ chg).2.1 = Acc.zero := by
  unfold Ar.doBy
  split
  · exact .inl rfl
  · exact .inr ⟨rfl, rfl⟩

/-- Free: the arena then, an error. -/
def Ar.freeE (s : Ar) (at_ : Int) : Nat := if (s.swap at_ 1 0).2.2 = 0 then (if (s.swap at_ 1 0).2.1.did then 0 else 30) else (s.swap at_ 1 0).2.2
/-- Held: is it? -/
def Ar.heldB (s : Ar) (at_ : Int) : Bool := if (s.load at_).2.2 = 0 then (((s.load at_).2.1.old : Int) != 0) else false

section
variable (w : World) (g : Nat) (fp : List Nat) (s : Ar) (hI : IsAr w g fp s)
include hI
theorem SpinNew_any : Calls Tryd.prog 31 #[.pointer (some ⟨g, 0, none⟩)] w fun e w' =>
    e = .returned (.tuple #[.int .i64 ((s.allocA 1).2.1 : Int), .int .i64 ((s.allocA 1).2.2 : Int)]) ∧ ArTo w w' g fp (s.allocA 1).1 := by
  have H := Lib.hid (Alloc_any w g fp s 1 hI)
  clear hI
  go_enter Tryd.func31, Tryd.ntmps31
  go_wp2_with fail
  refine H.out.mono ?_
  rintro e w' ⟨rfl, h⟩
  have H2 := Lib.hid h
  clear h
  go_wp2
  go_ret2
  exact ⟨rfl, H2.out⟩
variable (at_ : Int) (hn : s.L.length < 4611686018427387904)
include hn
theorem Try_any : Calls Tryd.prog 76 #[.pointer (some ⟨g, 0, none⟩), .int .i64 at_] w fun e w' =>
    e = .returned (.tuple #[.bool (s.swap at_ 0 1).2.1.did, .int .i64 ((s.swap at_ 0 1).2.2 : Int)]) ∧ ArTo w w' g fp (s.swap at_ 0 1).1 := by
  have H := Lib.hid (Swap_any w g fp s at_ hI hn 0 1 wd0 wd1)
  clear hI hn
  go_enter Tryd.func76, Tryd.ntmps76
  go_wp2_with fail
  refine H.out.mono ?_
  rintro e w' ⟨rfl, h⟩
  have H2 := Lib.hid h
  clear h
  go_wp2
  go_ret2
  exact ⟨rfl, H2.out⟩
theorem Free_any : Calls Tryd.prog 77 #[.pointer (some ⟨g, 0, none⟩), .int .i64 at_] w fun e w' =>
    e = .returned (.int .i64 (s.freeE at_ : Int)) ∧ ArTo w w' g fp (s.swap at_ 1 0).1 := by
  have H := Lib.hid (Swap_any w g fp s at_ hI hn 1 0 wd1 wd0)
  clear hI hn
  have HE : Hid ((s.freeE at_ : Int) = (if (s.swap at_ 1 0).2.2 = 0 then (if (s.swap at_ 1 0).2.1.did then 0 else 30) else (s.swap at_ 1 0).2.2 : Nat)) := rfl
  rcases doBy_err s 3 at_ (chgSwap 1 0) with he | ⟨he, hz⟩
  · change (s.swap at_ 1 0).2.2 = 0 at he
    rw [he, if_pos rfl] at HE
    cases hd : (s.swap at_ 1 0).2.1.did with
    | true =>
      rw [hd, if_pos rfl] at HE
      go_enter Tryd.func77, Tryd.ntmps77
      go_wp2_with fail
      refine H.out.mono ?_
      rintro e w' ⟨rfl, h⟩
      have H2 := Lib.hid h
      clear h
      go_wp2
      go_ret
      exact ⟨by rw [HE.out]; rfl, H2.out⟩
    | false =>
      rw [hd, if_neg (by simp)] at HE
      go_enter Tryd.func77, Tryd.ntmps77
      go_wp2_with fail
      refine H.out.mono ?_
      rintro e w' ⟨rfl, h⟩
      have H2 := Lib.hid h
      clear h
      go_wp2
      go_ret
      exact ⟨by rw [HE.out]; rfl, H2.out⟩
  · change (s.swap at_ 1 0).2.2 = 4 at he
    rw [he, if_neg (by simp)] at HE
    go_enter Tryd.func77, Tryd.ntmps77
    go_wp2_with fail
    refine H.out.mono ?_
    rintro e w' ⟨rfl, h⟩
    have H2 := Lib.hid h
    clear h
    go_wp2
    go_ret
    exact ⟨by rw [HE.out]; rfl, H2.out⟩
end
end Go.Proofs.YtihmbgdkllmkaaaDoor

/-
  The arena of layer 1 as a thing of the ledger.
-/
namespace Go.Proofs.YtihmbgdkllmkaaaDoor
open Go.RowKit Go.Shelf
set_option linter.unusedVariables false

/-- The arena at g is s. -/
def arena (g : Nat) (s : Ar) : Thing where
  holds w fp := IsAr w g fp s
  keep := fun h he => h.keep he
  lt := fun h => h.lt
section
variable {T : List Nat} {w0 w w' : World} {l : List Thing} {g : Nat} {s s' : Ar}
theorem Led.isAr (h : Led T w0 w l) (i : Nat) (hi : l[i]? = some (arena g s)) : ∃ fp, IsAr w g fp s := let ⟨f, h, _⟩ := h.get i hi; ⟨f, h⟩
theorem Led.artAll (h : Led T w0 w l) (i : Nat) (hi : l[i]? = some (arena g s)) : (∀ n ∈ s.C, Wd n) ∧ 1 ≤ s.most ∧ s.most ≤ 65536 ∧ s.C.length ≤ s.most := by
  obtain ⟨f, ⟨v1, v2, r, hA, _⟩, _⟩ := h.get i hi
  exact ⟨hA.wd, hA.most1, hA.most2, hA.len⟩
/-- A call on an arena. -/
theorem Led.ar (h : Led T w0 w l) (i : Nat) (hi : l[i]? = some (arena g s)) {f : Nat} {args : Array Value} {R : Ending → Prop} (hc : ∀ fp, IsAr w g fp s → Calls Tryd.prog f args w fun e w' => R e ∧ ArTo w w' g fp s') :
    Calls Tryd.prog f args w fun e w' => R e ∧ Led T w0 w' (l.set i (arena g s')) := by
  obtain ⟨fp, hI, _, hs⟩ := h.step i hi
  refine (hc fp hI).mono ?_
  rintro e w' ⟨he, fp', hI', hM⟩
  exact ⟨he, hs w' (arena g s') fp' hI' ⟨hM.touch, hM.fp⟩⟩
/-- A call that reads an arena. -/
theorem Led.arq (h : Led T w0 w l) (i : Nat) (hi : l[i]? = some (arena g s)) {f : Nat} {args : Array Value} {R : Ending → World → Prop} (hc : ∀ fp, IsAr w g fp s → Calls Tryd.prog f args w R) : Calls Tryd.prog f args w R := by
  obtain ⟨fp, hI, _, _⟩ := h.step i hi
  exact hc fp hI
theorem Led.arNew (h : Led T w0 w l) (most : Nat) (h1 : 1 ≤ most) (h2 : most ≤ 65536) : Calls Tryd.prog 8 #[.int .i64 (most : Int)] w
    fun e w' => e = .returned (.tuple #[.pointer (some ⟨w.heap.size, 0, none⟩), .int .i64 0]) ∧ Led T w0 w' (l ++ [arena w.heap.size (Ar.fresh most)]) := by
  refine (New_ok most w h1 h2).mono ?_
  rintro e w' ⟨rfl, hI, ht⟩
  exact ⟨rfl, h.new (t' := arena w.heap.size (Ar.fresh most)) hI ⟨ht, fun k hk => .inr (by simp at hk; omega)⟩⟩
end
end Go.Proofs.YtihmbgdkllmkaaaDoor

/-
  The ledger: the frame of the first things. No program is in sight.
-/
namespace Go.Proofs.YtihmbgdkllmkaaaDoor
open Go.RowKit
set_option linter.unusedVariables false
section
variable {T : List Nat} {w0 w w' : World} {m r : List Thing}
/-- What is shown of the first things alone. -/
theorem Led.frameFront (h : Led T w0 w (m ++ r)) : ∃ T', Led T' w w m ∧ ∀ w' m', Led T' w w' m' → Led T w0 w' (m' ++ r) := by
  have hz := h.size
  obtain ⟨hb, F, h1, h2⟩ := h
  have hT : ∀ k, k ∈ (List.range m.length).flatMap F ↔ ∃ i, i < m.length ∧ k ∈ F i := fun k => by simp
  have hm1 : ∀ i t, m[i]? = some t → t.holds w (F i) ∧ ∀ k ∈ F i, k ∈ T ∨ w0.heap.size ≤ k := fun i t hi => by
    have hl := (List.getElem?_eq_some_iff.1 hi).1
    exact h1 i t (by rw [List.getElem?_append_left hl]; exact hi)
  have hr1 : ∀ i t, r[i]? = some t → t.holds w (F (i + m.length)) ∧ ∀ k ∈ F (i + m.length), k ∈ T ∨ w0.heap.size ≤ k := fun i t hi => by
    exact h1 (i + m.length) t (by rw [List.getElem?_append_right (by omega)]; rw [show i + m.length - m.length = i from by omega]; exact hi)
  have hT0 : ∀ k ∈ (List.range m.length).flatMap F, k ∈ T ∨ w0.heap.size ≤ k := fun k hk => by
    obtain ⟨i, hi, hk⟩ := (hT k).1 hk
    exact (hm1 i _ (List.getElem?_eq_getElem hi)).2 k hk
  have hout : ∀ i, i < r.length → ∀ k ∈ F (i + m.length), k ∉ (List.range m.length).flatMap F := fun i hi k hk hc => by
    obtain ⟨j, hj, hkj⟩ := (hT k).1 hc
    exact h2 j (i + m.length) (by simp; omega) (by simp; omega) (by omega) k hkj hk
  refine ⟨(List.range m.length).flatMap F, ⟨Touch.refl _ _, F, fun i t hi => ⟨(hm1 i t hi).1, fun k hk => .inl ((hT k).2 ⟨i, (List.getElem?_eq_some_iff.1 hi).1, hk⟩)⟩, fun i j hi hj hij => h2 i j (by simp; omega) (by simp; omega) hij⟩, ?_⟩
  rintro w' m' ⟨hb', F', g1, g2⟩
  have hnew : ∀ i, i < m'.length → ∀ k ∈ F' i, k ∈ (List.range m.length).flatMap F ∨ w.heap.size ≤ k := fun i hi k hk => (g1 i _ (List.getElem?_eq_getElem hi)).2 k hk
  have hlt : ∀ i, i < r.length → ∀ k ∈ F (i + m.length), k < w.heap.size := fun i hi k hk => r[i].lt (hr1 i _ (List.getElem?_eq_getElem hi)).1 k hk
  have hdis : ∀ i j, i < m'.length → j < r.length → ∀ k ∈ F' i, k ∉ F (j + m.length) := fun i j hi hj k hk hk2 => by
    rcases hnew i hi k hk with h | h
    · exact hout j hj k hk2 h
    · have := hlt j hj k hk2
      omega
  refine ⟨hb.trans hb' hT0, fun i => if i < m'.length then F' i else F (i - m'.length + m.length), ?_, ?_⟩
  · intro i t hi
    by_cases hil : i < m'.length
    · rw [List.getElem?_append_left hil] at hi
      simp only [if_pos hil]
      obtain ⟨a, b⟩ := g1 i t hi
      exact ⟨a, fun k hk => (b k hk).elim (hT0 k) (fun h => .inr (by omega))⟩
    · rw [List.getElem?_append_right (by omega)] at hi
      simp only [if_neg hil]
      have hrl := (List.getElem?_eq_some_iff.1 hi).1
      obtain ⟨a, b⟩ := hr1 _ t hi
      exact ⟨t.keep a (fun k hk => hb'.block k (hlt _ hrl k hk) (hout _ hrl k hk)), b⟩
  · intro i j hi hj hij x hx hx2
    dsimp only at hx hx2
    simp only [List.length_append] at hi hj
    by_cases h3 : i < m'.length
    · rw [if_pos h3] at hx
      by_cases h4 : j < m'.length
      · rw [if_pos h4] at hx2; exact g2 i j h3 h4 hij x hx hx2
      · rw [if_neg h4] at hx2; exact hdis i (j - m'.length) h3 (by omega) x hx hx2
    · rw [if_neg h3] at hx
      by_cases h4 : j < m'.length
      · rw [if_pos h4] at hx2; exact hdis j (i - m'.length) h4 (by omega) x hx2 hx
      · rw [if_neg h4] at hx2
        exact h2 _ _ (by simp; omega) (by simp; omega) (by omega) x hx hx2
end
end Go.Proofs.YtihmbgdkllmkaaaDoor

/-
  The ledger: one thing for all that never turns, the memory of before the call among it. No program is in sight.
-/
namespace Go.Proofs.YtihmbgdkllmkaaaDoor
open Go.RowKit
set_option linter.unusedVariables false
set_option linter.unusedSimpArgs false

/-- What P says holds as long as some blocks are as they are. -/
def stillT (P : World → Prop) : Thing where
  holds w fp := (∀ k ∈ fp, k < w.heap.size) ∧ ∀ W, (∀ k ∈ fp, W.heap[k]? = w.heap[k]?) → P W
  keep := fun {w w' fp} ⟨h1, h2⟩ he => ⟨fun k hk => by
    have := he k hk
    rw [Array.getElem?_eq_getElem (h1 k hk)] at this
    exact (Array.getElem?_eq_some_iff.1 this).1, fun W hW => h2 W (fun k hk => (hW k hk).trans (he k hk))⟩
  lt := fun h k hk => h.1 k hk
section
variable {T : List Nat} {w0 w w' : World} {l : List Thing} {P Q : World → Prop} {t t1 t2 t12 t' : Thing}
theorem Led.still (h : Led T w0 w l) (i : Nat) (hi : l[i]? = some (stillT P)) : P w := by
  obtain ⟨f, hf, _⟩ := h.get i hi
  exact hf.2 w (fun _ _ => rfl)
theorem Led.retype (h : Led T w0 w l) (i : Nat) (hi : l[i]? = some t) (ht : ∀ f, t.holds w f → t'.holds w f) : Led T w0 w (l.set i t') := by
  obtain ⟨f, hf, _, hs⟩ := h.step i hi
  exact hs w t' f (ht f hf) (Went.refl f w)
theorem Led.toStill (h : Led T w0 w l) (i : Nat) (hi : l[i]? = some t) (hP : ∀ W f, t.holds W f → P W) : Led T w0 w (l.set i (stillT P)) :=
  h.retype i hi (fun f hf => ⟨t.lt hf, fun W hW => hP W f (t.keep hf hW)⟩)
/-- The last thing goes into the thing j. -/
theorem Led.mergeAt (h : Led T w0 w (l ++ [t2])) (j : Nat) (hj : l[j]? = some t1) (hm : ∀ f1 f2, t1.holds w f1 → t2.holds w f2 → t12.holds w (f1 ++ f2)) : Led T w0 w (l.set j t12) := by
  have hlt := (List.getElem?_eq_some_iff.1 hj).1
  have h1 : Led T w0 w ((l.take j ++ l.drop (j + 1)) ++ [t1, t2]) := by
    refine h.reindex (fun i => if i < j then i else if i < l.length - 1 then i + 1 else if i = l.length - 1 then j else l.length) ?_ ?_
    · intro i t hi
      have hil := (List.getElem?_eq_some_iff.1 hi).1
      simp only [List.length_append, List.length_take, List.length_drop, List.length_cons, List.length_nil] at hil
      by_cases c1 : i < j
      · rw [if_pos c1]
        rw [List.getElem?_append_left (by simp; omega), List.getElem?_append_left (by simp; omega), List.getElem?_take_of_lt c1] at hi
        rw [List.getElem?_append_left (by omega)]; exact hi
      · rw [if_neg c1]
        by_cases c2 : i < l.length - 1
        · rw [if_pos c2]
          rw [List.getElem?_append_left (by simp; omega), List.getElem?_append_right (by simp; omega), List.getElem?_drop] at hi
          rw [List.getElem?_append_left (by omega)]
          rw [List.length_take, show j + 1 + (i - min j l.length) = i + 1 by omega] at hi
          exact hi
        · rw [if_neg c2]
          rw [List.getElem?_append_right (by simp; omega)] at hi
          by_cases c3 : i = l.length - 1
          · rw [if_pos c3, List.getElem?_append_left hlt, hj]
            rw [show i - (l.take j ++ l.drop (j + 1)).length = 0 by simp; omega] at hi
            simpa using hi
          · rw [if_neg c3, List.getElem?_append_right (Nat.le_refl _), Nat.sub_self]
            rw [show i - (l.take j ++ l.drop (j + 1)).length = 1 by simp; omega] at hi
            simpa using hi
    · intro a b ha hb hab
      simp only [List.length_append, List.length_take, List.length_drop, List.length_cons, List.length_nil] at ha hb
      split at hab <;> split at hab <;> (try split at hab) <;> (try split at hab) <;> (try split at hab) <;> (try split at hab) <;> omega
  have h2 := h1.merge hm
  refine h2.reindex (fun i => if i < j then i else if i = j then l.length - 1 else i - 1) ?_ ?_
  · intro i t hi
    have hil := (List.getElem?_eq_some_iff.1 hi).1
    simp only [List.length_set] at hil
    by_cases c1 : i < j
    · rw [if_pos c1, List.getElem?_append_left (by simp; omega), List.getElem?_append_left (by simp; omega), List.getElem?_take_of_lt c1]
      rwa [List.getElem?_set_ne (by omega)] at hi
    · rw [if_neg c1]
      by_cases c2 : i = j
      · subst c2
        rw [if_pos rfl, List.getElem?_append_right (by simp; omega), show l.length - 1 - (l.take i ++ l.drop (i + 1)).length = 0 by simp; omega]
        rw [List.getElem?_set_self hlt] at hi
        simpa using hi
      · rw [if_neg c2, List.getElem?_append_left (by simp; omega), List.getElem?_append_right (by simp; omega), List.getElem?_drop, List.length_take, show j + 1 + (i - 1 - min j l.length) = i by omega]
        rwa [List.getElem?_set_ne (by omega)] at hi
  · intro a b ha hb hab
    simp only [List.length_set] at ha hb
    split at hab <;> split at hab <;> (try split at hab) <;> (try split at hab) <;> omega
/-- The last thing never turns from here on. -/
theorem Led.settle (h : Led T w0 w (l ++ [t])) (j : Nat) (hj : l[j]? = some (stillT P)) (hQ : ∀ W f, P W → t.holds W f → Q W) : Led T w0 w (l.set j (stillT Q)) :=
  h.mergeAt j hj (fun f1 f2 ⟨a1, a2⟩ hb => ⟨fun k hk => (List.mem_append.1 hk).elim (a1 k) (t.lt hb k), fun W hW => hQ W f2 (a2 W (fun k hk => hW k (List.mem_append_left _ hk))) (t.keep hb (fun k hk => hW k (List.mem_append_right _ hk)))⟩)
theorem Led.weaken (h : Led T w0 w l) (i : Nat) (hi : l[i]? = some (stillT P)) (hQ : ∀ W, P W → Q W) : Led T w0 w (l.set i (stillT Q)) :=
  h.toStill i hi (fun W f hf => hQ W (hf.2 W (fun _ _ => rfl)))
/-- The memory of before is as it was. -/
def Old (w0 W : World) : Prop := ∀ k, k < w0.heap.size → W.heap[k]? = w0.heap[k]?
theorem Led.old0 (w : World) : Led (List.range w.heap.size) w w [stillT (Old w)] :=
  ⟨Touch.refl _ _, fun _ => List.range w.heap.size, fun i t hi => by
    cases i with
    | zero =>
      simp at hi; subst hi
      exact ⟨⟨fun k hk => List.mem_range.1 hk, fun W hW k hk => hW k (List.mem_range.2 hk)⟩, fun k hk => .inl hk⟩
    | succ i => simp at hi, fun i j hi hj hij => by simp at hi hj; omega⟩
theorem Led.oldTouch (h : Led T w0 w l) (ho : Old w0 w) : Touch [] w0 w := ⟨h.1.os, h.1.tape, h.1.output, h.1.size, fun k hk _ => ho k hk⟩
end
end Go.Proofs.YtihmbgdkllmkaaaDoor

/-
  Copies of values' top rows, as one thing: exact until they are turned, loose from then on. No program is in sight.
-/
namespace Go.Proofs.YtihmbgdkllmkaaaDoor
open Go.RowKit
set_option linter.unusedVariables false
set_option linter.unusedSimpArgs false

/-- The top rows of values. -/
def exactT (ts : List MT) : Thing where
  holds w fp := (∀ k ∈ fp, k < w.heap.size) ∧ ∀ t ∈ ts, (∀ k ∈ sb (.slice t.addr t.parts.length t.cap), k ∈ fp) ∧ rowS w 40 3 (.slice t.addr t.parts.length t.cap) t.parts.length (valCells t.parts)
  keep := fun {w w' fp} ⟨h1, h2⟩ he => ⟨fun k hk => by
    have := he k hk
    rw [Array.getElem?_eq_getElem (h1 k hk)] at this
    exact (Array.getElem?_eq_some_iff.1 this).1, fun t ht => ⟨(h2 t ht).1, rowS_keep (h2 t ht).2 (fun k hk => he k ((h2 t ht).1 k hk))⟩⟩
  lt := fun h k hk => h.1 k hk
/-- Top rows of values of which nothing is known but that they are such. -/
def looseT (sh : List (Option Addr × Nat × Nat)) : Thing where
  holds w fp := (∀ k ∈ fp, k < w.heap.size) ∧ ∀ s ∈ sh, (∀ k ∈ sb (.slice s.1 s.2.1 s.2.2), k ∈ fp) ∧ ∃ parts : List MT, parts.length = s.2.1 ∧ rowS w 40 3 (.slice s.1 s.2.1 s.2.2) s.2.1 (valCells parts)
  keep := fun {w w' fp} ⟨h1, h2⟩ he => ⟨fun k hk => by
    have := he k hk
    rw [Array.getElem?_eq_getElem (h1 k hk)] at this
    exact (Array.getElem?_eq_some_iff.1 this).1, fun s hs => by
      obtain ⟨g1, parts, g2, g3⟩ := h2 s hs
      exact ⟨g1, parts, g2, rowS_keep g3 (fun k hk => he k (g1 k hk))⟩⟩
  lt := fun h k hk => h.1 k hk
def MT.sh (t : MT) : Option Addr × Nat × Nat := (t.addr, t.parts.length, t.cap)
section
variable {T : List Nat} {w0 w w' : World} {l : List Thing} {ts : List MT} {sh : List (Option Addr × Nat × Nat)}
theorem Led.exact0 (h : Led T w0 w l) : Led T w0 w (l ++ [exactT []]) := h.new (t' := exactT []) (f' := []) ⟨by simp, by simp⟩ ⟨Touch.refl _ _, by simp⟩
/-- One row more. -/
theorem Led.exactAdd {t : MT} (h : Led T w0 w (l ++ [rowT 40 3 (.slice t.addr t.parts.length t.cap) t.parts.length (valCells t.parts)])) (j : Nat) (hj : l[j]? = some (exactT ts)) : Led T w0 w (l.set j (exactT (ts ++ [t]))) := by
  refine h.mergeAt j hj ?_
  rintro f1 f2 ⟨a1, a2⟩ ⟨rfl, b2⟩
  refine ⟨fun k hk => (List.mem_append.1 hk).elim (a1 k) (rowS_lt b2 k), fun t' ht' => ?_⟩
  rcases List.mem_append.1 ht' with ht' | ht'
  · exact ⟨fun k hk => List.mem_append_left _ ((a2 t' ht').1 k hk), (a2 t' ht').2⟩
  · obtain rfl : t' = t := by simpa using ht'
    exact ⟨fun k hk => List.mem_append_right _ hk, b2⟩
theorem Led.exactAt (h : Led T w0 w l) (i : Nat) (hi : l[i]? = some (exactT ts)) : ∀ t ∈ ts, rowS w 40 3 (.slice t.addr t.parts.length t.cap) t.parts.length (valCells t.parts) := by
  obtain ⟨f, hf, _⟩ := h.get i hi
  exact fun t ht => (hf.2 t ht).2
theorem exactT_in {W : World} (h : ∃ f, (exactT ts).holds W f) {t : MT} (ht : t ∈ ts) (hl : t.parts.length ≤ 9223372036854775807) (hp : ∀ u ∈ t.parts, u.In W) : t.In W := by
  obtain ⟨f, _, h2⟩ := h
  obtain ⟨_, hr⟩ := h2 t ht
  cases t with
  | mk k n a c l =>
    refine MT.in_mk hl ?_ hp
    by_cases h0 : l.length = 0
    · intro i hi; omega
    · obtain ⟨g, cap', cur, hv, _⟩ := rowS_form hr (by simpa [MT.parts] using Nat.pos_of_ne_zero h0)
      injection hv with h1 _ h3
      have h1' : a = some ⟨g, 0, none⟩ := h1
      subst h1'
      exact row_at_of (v := .slice none 0 0) (cap := c) hr
theorem Led.loosen (h : Led T w0 w l) (i : Nat) (hi : l[i]? = some (exactT ts)) : Led T w0 w (l.set i (looseT (ts.map MT.sh))) :=
  h.retype i hi (fun f ⟨h1, h2⟩ => ⟨h1, fun s hs => by
    obtain ⟨t, ht, rfl⟩ := List.mem_map.1 hs
    exact ⟨(h2 t ht).1, t.parts, rfl, (h2 t ht).2⟩⟩)
theorem Led.looseAt (h : Led T w0 w l) (i : Nat) (hi : l[i]? = some (looseT sh)) {a : Option Addr} {n c : Nat} (hs : (a, n, c) ∈ sh) {k : Nat} (hk : k < n) : ∃ g z, a = some ⟨g, 0, none⟩ ∧ w.cell? ⟨g, k * 3 + 1, none⟩ = some (.int .i64 z) ∧ w.frozen? ⟨g, k * 3 + 1, none⟩ = false ∧ g < w.heap.size := by
  obtain ⟨f, hf, _⟩ := h.get i hi
  obtain ⟨h1, parts, h2, h3⟩ := hf.2 _ hs
  obtain ⟨g, cap', cur, hv, _⟩ := rowS_form h3 (by simp only; omega)
  injection hv with e1 _ e3
  simp only at e1 h2
  subst e1
  have hlen := valCells_length parts
  have hlt : k * 3 + 1 < (valCells parts).length := by omega
  refine ⟨g, (parts[k]'(by omega)).num, rfl, ?_, rowS_frozen h3 _, rowS_lt h3 g (by simp [sb, Value.ownBlock])⟩
  rw [rowS_cell h3 _ hlt]
  have := valCells_get parts k (by omega) 1 (by omega)
  rw [List.getElem?_eq_getElem hlt] at this
  rw [this]
  rfl
theorem valCells_setnum (parts : List MT) (j : Nat) (z : Int) : ∃ parts' : List MT, parts'.length = parts.length ∧ valCells parts' = (valCells parts).set (j * 3 + 1) (.int .i64 z) := by
  induction parts generalizing j with
  | nil => exact ⟨[], rfl, by simp [valCells]⟩
  | cons t r ih =>
    cases j with
    | zero =>
      cases t with
      | mk k n a c l => exact ⟨.mk k z a c l :: r, rfl, rfl⟩
    | succ j =>
      obtain ⟨r', h1, h2⟩ := ih j
      refine ⟨t :: r', by simp [h1], ?_⟩
      simp only [valCells, List.flatMap_cons] at h2 ⊢
      rw [h2]
      simp only [MT.cells, List.cons_append, List.nil_append]
      rw [show (j + 1) * 3 + 1 = j * 3 + 1 + 1 + 1 + 1 from by omega]
      rfl
theorem Led.looseSet (h : Led T w0 w l) (i : Nat) (hi : l[i]? = some (looseT sh)) {g n c : Nat} (hs : (some ⟨g, 0, none⟩, n, c) ∈ sh) (k : Nat) (z : Int) : Led T w0 (w.setCell ⟨g, k * 3 + 1, none⟩ (.int .i64 z)) l := by
  obtain ⟨f, hf, _, hst⟩ := h.step i hi
  have hgf : g ∈ f := (hf.2 _ hs).1 g (by simp [sb, Value.ownBlock])
  have hnew : (looseT sh).holds (w.setCell ⟨g, k * 3 + 1, none⟩ (.int .i64 z)) f := by
    refine ⟨fun k hk => by simpa using hf.1 k hk, fun s hs' => ?_⟩
    obtain ⟨g1, parts, g2, g3⟩ := hf.2 s hs'
    refine ⟨g1, ?_⟩
    by_cases hb : g ∈ sb (.slice s.1 s.2.1 s.2.2)
    · rcases g3.2 with ⟨hv, _⟩ | ⟨g', cap', cur, hv, _⟩
      · rw [hv] at hb; simp [sb, Value.ownBlock] at hb
      · rw [hv] at hb g3 ⊢
        have : g = g' := by simpa [sb, Value.ownBlock] using hb
        subst this
        obtain ⟨parts', h1, h2⟩ := valCells_setnum parts k z
        refine ⟨parts', by omega, ?_⟩
        rw [h2]
        exact rowS_set g3 _ _
    · exact ⟨parts, g2, rowS_keep g3 (fun k' hk' => ((Touch.refl [g] w).setCell _ _ (.inl (by simp))).block k' (rowS_lt g3 k' hk') (by
        intro hc
        have : k' = g := by simpa using hc
        subst this
        exact hb hk'))⟩
  have h2 := hst _ _ f hnew ⟨(Touch.refl _ w).setCell _ _ (.inl hgf), fun k hk => .inl hk⟩
  rwa [show l.set i (looseT sh) = l from by
    apply List.ext_getElem?
    intro j
    by_cases hj : i = j
    · subst hj; rw [List.getElem?_set_self (List.getElem?_eq_some_iff.1 hi).1, hi]
    · rw [List.getElem?_set_ne hj]] at h2
theorem entCells_setsync (cs : List ME) (j : Nat) (z : Int) : ∃ cs' : List ME, cs'.length = cs.length ∧ cs'.map (fun c => c.v.sh) = cs.map (fun c => c.v.sh) ∧ entCells cs' = (entCells cs).set (j * 7) (.int .i64 z) := by
  induction cs generalizing j with
  | nil => exact ⟨[], rfl, rfl, by simp [entCells]⟩
  | cons t r ih =>
    cases j with
    | zero => exact ⟨{ t with sync := z } :: r, rfl, rfl, rfl⟩
    | succ j =>
      obtain ⟨r', h1, h2, h3⟩ := ih j
      refine ⟨t :: r', by simp [h1], by simp [h2], ?_⟩
      simp only [entCells, List.flatMap_cons] at h3 ⊢
      rw [h3]
      simp only [ME.cells, List.cons_append, List.nil_append]
      rw [show (j + 1) * 7 = j * 7 + 1 + 1 + 1 + 1 + 1 + 1 + 1 from by omega]
      rfl
/-- Push, the values gone into what never turns. -/
theorem Led.qPushS {P : World → Prop} {g : Nat} {es xs : List ME} {a : Option Addr} {cap : Nat} (h : Led T w0 w l) (i j : Nat) (hi : l[i]? = some (queueT g es)) (hj : l[j]? = some (stillT P)) (hij : i ≠ j) (hsrc : ∀ W, Beside l i W → EntsAt W a xs ∧ ∀ x ∈ xs, x.v.In W) (hn : xs.length ≤ 1099511627776) (hes : es.length ≤ 4096) :
    Calls Tryd.prog 39 #[.pointer (some ⟨g, 0, none⟩), .slice a xs.length cap] w fun e w' => ∃ (k : Nat) (err : Int) (ys : List ME), e = .returned (.int .i64 err) ∧ PushR es.length (xs.map ME.plain) k err ∧ ys.map ME.plain = (xs.map ME.plain).take k ∧ Led T w0 w' ((l.set i (queueT g (es ++ ys))).set j (stillT fun W => P W ∧ ∀ y ∈ ys, y.v.In W)) := by
  obtain ⟨T', h1, _, hk, hb⟩ := h.frameK i hi
  refine (Push_q T' w g es xs a cap h1 (fun W hW => hsrc W (hk W hW)) hn hes).mono ?_
  rintro e w' ⟨k, err, ys, rfl, hR, hp, hL⟩
  refine ⟨k, err, ys, rfl, hR, hp, Led.settle (hb _ _ _ hL) j ?_ (fun W f hW hf => ⟨hW, fun y hy => hf.2 _ (List.mem_map.2 ⟨y, hy, rfl⟩)⟩)⟩
  rwa [List.getElem?_set_ne hij]
end
end Go.Proofs.YtihmbgdkllmkaaaDoor

/-
  Layer 14 (channel.go): none, queue, open, New, try, free, Lock, Unlock, Cell.
-/
namespace Go.Proofs.YtihmbgdkllmkaaaDoor
open Go.RowKit Go.Shelf
set_option maxRecDepth 100000
set_option linter.unusedVariables false
set_option linter.unusedSimpArgs false

/-- The queues of the sides. -/
def mapObj (q1 q2 : Nat) : Obj := .map #[⟨.int .i64 1, .pointer (some ⟨q1, 0, none⟩), 0⟩, ⟨.int .i64 2, .pointer (some ⟨q2, 0, none⟩), 1⟩] 2
def qOf (s : Int) (q1 q2 : Nat) : Option Addr := if s = 1 then some ⟨q1, 0, none⟩ else if s = 2 then some ⟨q2, 0, none⟩ else none
/-- A channel: its lock's cell, the map of its queues. -/
def ChAt (w : World) (c : Nat) (at_ : Int) (M q1 q2 : Nat) : Prop := Blk w c 75 #[.int .i64 at_, .map (some M)] ∧ w.heap[M]? = some (mapObj q1 q2)
theorem ChAt.touch {w w' : World} {c : Nat} {a : Int} {M q1 q2 : Nat} (h : ChAt w c a M q1 q2) (ht : Touch [] w w') : ChAt w' c a M q1 q2 :=
  ⟨Blk.touch h.1 ht (by simp), (ht.block M (Array.getElem?_eq_some_iff.1 h.2).1 (by simp)).trans h.2⟩
theorem ChAt.cells {w : World} {c : Nat} {a : Int} {M q1 q2 : Nat} (h : ChAt w c a M q1 q2) : w.cell? ⟨c, 0, none⟩ = some (.int .i64 a) ∧ w.cell? ⟨c, 1, none⟩ = some (.map (some M)) ∧ c < w.heap.size ∧ c < w.heap.size + 1 := by
  have hl := Blk.lt h.1
  exact ⟨Blk.cell h.1 0, Blk.cell h.1 1, hl, by omega⟩
/-- The two sides, as the program's text lays them. -/
def SidesAt (w : World) : Prop := w.cell? ⟨0, 0, none⟩ = some (.int .i64 1) ∧ w.cell? ⟨0, 1, none⟩ = some (.int .i64 2)
theorem SidesAt.touch {w w' : World} (h : SidesAt w) (ht : Touch [] w w') : SidesAt w' := ⟨ht.cellOf h.1, ht.cellOf h.2⟩
/-- A look-up of a side. -/
theorem look_side (w : World) (M q1 q2 : Nat) (h : w.heap[M]? = some (mapObj q1 q2)) (s : Int) : (Instr.lookup 73 (.map (some M)) (.int .i64 s) false).run Tryd.prog w = .ok (.pointer (qOf s q1 q2)) w := by
  unfold mapObj at h
  have hu := Tryd.underlying73
  have hk := Tryd.underlying45
  unfold qOf
  by_cases h1 : s = 1
  · subst h1
    have hf : Instr.findNow (.int .i64) (.int .i64 1) [⟨.int .i64 1, .pointer (some ⟨q1, 0, none⟩), 0⟩, ⟨.int .i64 2, .pointer (some ⟨q2, 0, none⟩), 1⟩] 0 = some (some (0, .pointer (some ⟨q1, 0, none⟩))) := by kernel_rfl
    simp [Instr.lookup, run_underlying hu, run_getObj_m h, run_checkKey_i false 9999 hk, run_findKey_i hk 1 _ hf]
  by_cases h2 : s = 2
  · subst h2
    have hf : Instr.findNow (.int .i64) (.int .i64 2) [⟨.int .i64 1, .pointer (some ⟨q1, 0, none⟩), 0⟩, ⟨.int .i64 2, .pointer (some ⟨q2, 0, none⟩), 1⟩] 0 = some (some (1, .pointer (some ⟨q2, 0, none⟩))) := by kernel_rfl
    simp [Instr.lookup, run_underlying hu, run_getObj_m h, run_checkKey_i false 9999 hk, run_findKey_i hk 2 _ hf]
  · have hf : Instr.findNow (.int .i64) (.int .i64 s) [⟨.int .i64 1, .pointer (some ⟨q1, 0, none⟩), 0⟩, ⟨.int .i64 2, .pointer (some ⟨q2, 0, none⟩), 1⟩] 0 = some none := by
      have e1 : Instr.sameNow (.int .i64) (.int .i64 s) (.int .i64 1) = some false := by simp [Instr.sameNow, h1]
      have e2 : Instr.sameNow (.int .i64) (.int .i64 s) (.int .i64 2) = some false := by simp [Instr.sameNow, h2]
      simp [Instr.findNow, e1, e2]
    have hz : (zeroValue 101).run Tryd.prog w = .ok (.pointer none) w := by kernel_rfl
    simp [Instr.lookup, run_underlying hu, run_getObj_m h, run_checkKey_i false 9999 hk, run_findKey_i hk s _ hf, hz, h1, h2]
theorem mapq_has (w : World) (M : Nat) : (binOp .eql 73 (.map (some M)) (.map none)).run Tryd.prog w = .ok (.bool false) w := by kernel_rfl
section
variable (w : World) (c : Nat) (a : Int) (M q1 q2 : Nat) (hc : ChAt w c a M q1 q2)
include hc
theorem chnone_no : Calls Tryd.prog 38 #[.pointer (some ⟨c, 0, none⟩)] w fun e w' => e = .returned (.bool false) ∧ w = w' := by
  obtain ⟨c0, c1, hl, _⟩ := hc.cells
  have hmn := mapq_has w M
  clear hc
  go_enter Tryd.func38, Tryd.ntmps38
  go_wp2
  go_ret
  exact ⟨rfl, rfl⟩
theorem queue_c (s : Int) : Calls Tryd.prog 37 #[.pointer (some ⟨c, 0, none⟩), .int .i64 s] w fun e w' => e = .returned (.pointer (qOf s q1 q2)) ∧ w = w' := by
  obtain ⟨c0, c1, hl, _⟩ := hc.cells
  have HC := Lib.hid hc
  have hlk := look_side w M q1 q2 hc.2 s
  clear hc
  go_enter Tryd.func37, Tryd.ntmps37
  go_wp2_with fail
  refine (chnone_no _ _ _ _ _ _ HC.out).mono ?_
  rintro e w' ⟨rfl, rfl⟩
  go_wp2
  go_ret
  exact ⟨rfl, rfl⟩
theorem Cell_ch : Calls Tryd.prog 25 #[.pointer (some ⟨c, 0, none⟩)] w fun e w' => e = .returned (.int .i64 a) ∧ w = w' := by
  obtain ⟨c0, c1, hl, _⟩ := hc.cells
  have HC := Lib.hid hc
  clear hc
  go_enter Tryd.func25, Tryd.ntmps25
  go_wp2_with fail
  refine (chnone_no _ _ _ _ _ _ HC.out).mono ?_
  rintro e w' ⟨rfl, rfl⟩
  go_wp2
  go_ret
  exact ⟨rfl, rfl⟩
end
theorem made_mapQ (h : Int) (W : World) : (Instr.makeMap 73 (some (.int .i64 h))).run Tryd.prog W = .ok (.map (some W.heap.size)) (W.alloc (.map #[] 0)) := by
  simp [Instr.makeMap, run_underlying Tryd.underlying73, asInt, asIntOf, newObj]
  rfl
theorem put_side (w : World) (M : Nat) (es : Array MapEntry) (clock : Nat) (hr : w.heap[M]? = some (.map es clock)) (s : Int) (hf : Instr.findNow (.int .i64) (.int .i64 s) es.toList 0 = some none) (v : Value) :
    (Instr.mapUpdate 73 (.map (some M)) (.int .i64 s) v).run Tryd.prog w = .ok () (w.putObj M (.map (es.push ⟨.int .i64 s, v, clock⟩) (clock + 1))) := by
  simp [Instr.mapUpdate, run_underlying Tryd.underlying73, run_getObj_m hr, run_checkKey_i false 9999 Tryd.underlying45, run_findKey_i Tryd.underlying45 s es.toList hf, run_setObj_m _ hr]
theorem Led.via {T : List Nat} {w0 w w' : World} {l : List Thing} (h : Led T w0 w l) (e : w = w') : Led T w0 w' l := e ▸ h
theorem exit_nameQ {Q : Exit → Act → World → Prop} {ex : Exit} {a : Act} {W : World} (h : ∀ w2, W = w2 → Q ex a w2) : Q ex a W := h W rfl
theorem Led.exq {T : List Nat} {w0 w : World} {l : List Thing} (h : Led T w0 w l) (i : Nat) {b : Nat} {o : Obj} (hi : l[i]? = some (exact1 b o)) : w.heap[b]? = some o := let ⟨_, h, _⟩ := h.get i hi; h.2
theorem Led.exqput {T : List Nat} {w0 w : World} {l : List Thing} (h : Led T w0 w l) (i : Nat) {b : Nat} {o : Obj} (hi : l[i]? = some (exact1 b o)) (o' : Obj) : Led T w0 (w.putObj b o') (l.set i (exact1 b o')) := by
  obtain ⟨f, ⟨hf, hb⟩, _, hs⟩ := h.step i hi
  subst hf
  exact hs _ (exact1 b o') [b] ⟨rfl, World.putObj_heap_same (Array.getElem?_eq_some_iff.1 hb).1⟩ ⟨(Touch.refl _ w).putObj (.inr (by simp)) o', fun k hk => .inl hk⟩
theorem Led.exqnew {T : List Nat} {w0 w : World} {l : List Thing} (h : Led T w0 w l) (o : Obj) : Led T w0 (w.alloc o) (l ++ [exact1 w.heap.size o]) :=
  h.new (t' := exact1 w.heap.size o) (f' := [w.heap.size]) ⟨rfl, heap_alloc_new w _⟩ ⟨(Touch.refl [] w).alloc _, fun k hk => .inr (by simp at hk; omega)⟩
theorem Led.chAt {T : List Nat} {w0 w : World} {l : List Thing} {c M q1 q2 : Nat} {a : Int} (h : Led T w0 w l) (i j : Nat) (hi : l[i]? = some (Proofs.YtihmbgdkllmkaaaDoor.box c 75 #[.int .i64 a, .map (some M)])) (hj : l[j]? = some (exact1 M (mapObj q1 q2))) : ChAt w c a M q1 q2 := ⟨h.box i hi, h.exq j hj⟩
/-- The things of a channel. -/
def chanL (c : Nat) (a : Int) (M q1 q2 : Nat) (es1 es2 : List ME) : List Thing := [box c 75 #[.int .i64 a, .map (some M)], exact1 M (mapObj q1 q2), queueT q1 es1, queueT q2 es2]
set_option maxHeartbeats 2000000 in
theorem open_c (T : List Nat) (w : World) (c b : Nat) (a : Int) (h : Led T w w [box c 75 #[.int .i64 a, .map none], box b 45 #[.int .i64 1, .int .i64 2]]) :
    Calls Tryd.prog 32 #[.pointer (some ⟨c, 0, none⟩), .slice (some ⟨b, 0, none⟩) 2 2] w fun e w' => e = .returned (.tuple #[]) ∧ ∃ M q1 q2, Led T w w' (chanL c a M q1 q2 [] []) := by
  have HL0 := Lib.hid h
  clear h
  obtain ⟨c0, c1, f0, f1, hl, _, _⟩ := HL0.out.c2 0 rfl
  have hmk := made_mapQ 2
  go_enter Tryd.func32, Tryd.ntmps32
  have g1 := HL0.out.c2 1 rfl
  obtain ⟨s0, s1, _, _, sl, _, _⟩ := g1
  have hx1 : c ≠ w.heap.size := by omega
  have hx2 := Ne.symm hx1
  go_wp2_with fail
  refine wp_name ?_
  intro w1 hw1
  have HL1 := Lib.hid (((HL0.out.set 0 rfl 1 (.map (some w.heap.size))).exqnew (.map #[] 0)).via hw1)
  simp only [World.size_setCell, List.nil_append, List.cons_append, List.set_cons_zero, List.setIfInBounds_toArray, List.set_cons_succ] at HL1
  obtain ⟨M, hM⟩ : ∃ b, w.heap.size = b := ⟨_, rfl⟩
  rw [hM] at HL1 ⊢
  clear hw1 hM HL0 c0 c1 f0 f1 hl s0 s1 sl hmk hx1 hx2
  go_loopw [14] (fun i wr => (i = .int .i64 0 ∧ Hid (Led T w wr [box c 75 #[.int .i64 a, .map (some M)], box b 45 #[.int .i64 1, .int .i64 2], exact1 M (.map #[] 0)])) ∨
      (i = .int .i64 1 ∧ ∃ q1, Hid (Led T w wr [box c 75 #[.int .i64 a, .map (some M)], box b 45 #[.int .i64 1, .int .i64 2], exact1 M (.map #[⟨.int .i64 1, .pointer (some ⟨q1, 0, none⟩), 0⟩] 1), queueT q1 []])) ∨
      (i = .int .i64 2 ∧ ∃ q1 q2, Hid (Led T w wr [box c 75 #[.int .i64 a, .map (some M)], box b 45 #[.int .i64 1, .int .i64 2], exact1 M (mapObj q1 q2), queueT q1 [], queueT q2 []]))) (fun i _ => 2 - (intOf i).toNat)
  case atStart => exact .inl ⟨rfl, HL1⟩
  case round =>
    clear HL1
    rcases hrel with ⟨rfl, HK⟩ | ⟨rfl, q1, HK⟩ | ⟨rfl, q1, q2, HK⟩
    · obtain ⟨c0, c1, f0, f1, hl, _, _⟩ := HK.out.c2 0 rfl
      obtain ⟨s0, s1, _, _, sl, _, _⟩ := HK.out.c2 1 rfl
      go_wp2_with fail
      go_region_held3 (fun w' => w'.cell? ⟨c, 1, none⟩ = some (.map (some M))) (go_keep) (first
        | (go_at_call 64; refine (New_q _ HK.out.drew).mono ?_; rintro e w3 ⟨q1, rfl, hL⟩; have HL3 := Lib.hid hL; (simp only [List.nil_append, List.cons_append] at HL3); clear hL c0 c1 f0 f1 hl; obtain ⟨c0, c1, f0, f1, hl, _, _⟩ := HL3.out.c2 0 rfl; have hmu := put_side w3 M #[] 0 (HL3.out.exq 2 rfl) 1 rfl (.pointer (some ⟨q1, 0, none⟩)); have hk1 := (fun o => ((HL3.out.exqput 2 rfl o).c2 0 rfl).2.1); (simp only [List.push_toArray, List.nil_append, Nat.reduceAdd] at hmu)))
      rename_i hHeld
      clear hHeld hmu hk1 c0 c1 f0 f1 hl s0 s1 sl HK
      refine exit_nameQ ?_
      intro w4 hw4
      have HL4 : Hid (Led T w w4 [box c 75 #[.int .i64 a, .map (some M)], box b 45 #[.int .i64 1, .int .i64 2], exact1 M (.map #[⟨.int .i64 1, .pointer (some ⟨q1, 0, none⟩), 0⟩] 1), queueT q1 []]) := (HL3.out.exqput 2 rfl (.map #[⟨.int .i64 1, .pointer (some ⟨q1, 0, none⟩), 0⟩] 1)).via hw4
      clear hw4 HL3
      go_wp2
      go_roundw
      case rel => exact .inr (.inl ⟨by go_num, q1, HL4⟩)
      case measure => simp [intOf]
    · obtain ⟨c0, c1, f0, f1, hl, _, _⟩ := HK.out.c2 0 rfl
      obtain ⟨s0, s1, _, _, sl, _, _⟩ := HK.out.c2 1 rfl
      go_wp2_with fail
      go_region_held3 (fun w' => w'.cell? ⟨c, 1, none⟩ = some (.map (some M))) (go_keep) (first
        | (go_at_call 64; refine (New_q _ HK.out.drew).mono ?_; rintro e w3 ⟨q2, rfl, hL⟩; have HL3 := Lib.hid hL; (simp only [List.nil_append, List.cons_append] at HL3); clear hL c0 c1 f0 f1 hl; obtain ⟨c0, c1, f0, f1, hl, _, _⟩ := HL3.out.c2 0 rfl; have hmu := put_side w3 M #[⟨.int .i64 1, .pointer (some ⟨q1, 0, none⟩), 0⟩] 1 (HL3.out.exq 2 rfl) 2 rfl (.pointer (some ⟨q2, 0, none⟩)); have hk1 := (fun o => ((HL3.out.exqput 2 rfl o).c2 0 rfl).2.1); (simp only [List.push_toArray, List.nil_append, List.cons_append, Nat.reduceAdd] at hmu)))
      rename_i hHeld
      clear hHeld hmu hk1 c0 c1 f0 f1 hl s0 s1 sl HK
      refine exit_nameQ ?_
      intro w4 hw4
      have HL4 : Hid (Led T w w4 [box c 75 #[.int .i64 a, .map (some M)], box b 45 #[.int .i64 1, .int .i64 2], exact1 M (mapObj q1 q2), queueT q1 [], queueT q2 []]) := (HL3.out.exqput 2 rfl (mapObj q1 q2)).via hw4
      clear hw4 HL3
      go_wp2
      go_roundw
      case rel => exact .inr (.inr ⟨by go_num, q1, q2, HL4⟩)
      case measure => simp [intOf]
    · go_wp2
      go_end0
      exact ⟨rfl, M, q1, q2, HK.out.sel [0, 2, 3, 4] rfl (by decide)⟩
theorem Led.chNew {T : List Nat} {w0 w : World} {l : List Thing} {g : Nat} {s : Ar} (h : Led T w0 w l) (i : Nat) (hi : l[i]? = some (arena g s)) (hS : ∀ W, Led T w0 W (l.set i (arena g (s.allocA 1).1)) → SidesAt W) (hok : s.C.length + 1 ≤ s.most) :
    Calls Tryd.prog 9 #[.pointer (some ⟨g, 0, none⟩)] w fun e w' => ∃ c M q1 q2, e = .returned (.tuple #[.pointer (some ⟨c, 0, none⟩), .int .i64 0]) ∧ Led T w0 w' (l.set i (arena g (s.allocA 1).1) ++ chanL c (s.C.length : Int) M q1 q2 [] []) := by
  have hal := h.ar i hi (fun fp hI => SpinNew_any w g fp s hI)
  have e1 : (s.allocA 1).2.1 = s.C.length ∧ (s.allocA 1).2.2 = 0 := by unfold Ar.allocA; rw [if_neg (by omega), if_neg (by omega)]; exact ⟨rfl, rfl⟩
  rw [e1.1, e1.2] at hal
  have HA := Lib.hid hal
  clear hal e1 h hi
  go_enter Tryd.func9, Tryd.ntmps9
  go_wp2
  refine wp_scope_fwd 0 rfl ?_
  go_wp2_with fail
  refine HA.out.mono ?_
  rintro e w1 ⟨rfl, hL⟩
  have HL := Lib.hid hL
  obtain ⟨t0, t1⟩ := hS w1 hL
  have tl : 0 < w1.heap.size := World.block_lt_of_cell? _ _ t0
  have tl1 : 0 < w1.heap.size + 1 := by omega
  clear hL HA
  have hbc : ∀ W, (Instr.build 75 #[(0, .agg #[.int .i64 (s.C.length : Int)])]).run Tryd.prog W = .ok (.agg #[.int .i64 (s.C.length : Int), .map none]) W := fun W => run_build W 75 _ _ (by kernel_rfl)
  have hbl : ∀ W, (Instr.build 72 #[(0, .int .i64 (s.C.length : Int))]).run Tryd.prog W = .ok (.agg #[.int .i64 (s.C.length : Int)]) W := fun W => run_build W 72 _ _ (by kernel_rfl)
  go_wp2_with fail
  refine wp_calls_name ?_
  intro w2 hw2
  have HL2 := Lib.hid (((HL.out.alloc 75 #[.int .i64 (s.C.length : Int), .map none]).alloc 45 #[.int .i64 1, .int .i64 2]).via hw2)
  simp only [World.size_alloc] at HL2
  obtain ⟨c, hc⟩ : ∃ b, w1.heap.size = b := ⟨_, rfl⟩
  rw [hc] at HL2 ⊢
  clear hw2 hc t0 t1 tl tl1 HL hbc hbl
  have h2 : Led T w0 w2 ([Proofs.YtihmbgdkllmkaaaDoor.box c 75 #[.int .i64 (s.C.length : Int), .map none], Proofs.YtihmbgdkllmkaaaDoor.box (c + 1) 45 #[.int .i64 1, .int .i64 2]] ++ l.set i (arena g (s.allocA 1).1)) := by
    have := Led.swapEnd (a := []) (b := l.set i (arena g (s.allocA 1).1)) (c := [Proofs.YtihmbgdkllmkaaaDoor.box c 75 #[.int .i64 (s.C.length : Int), .map none], Proofs.YtihmbgdkllmkaaaDoor.box (c + 1) 45 #[.int .i64 1, .int .i64 2]]) (by simpa using HL2.out)
    simpa using this
  obtain ⟨T', hF, hb⟩ := h2.frameFront
  refine (open_c T' w2 c (c + 1) _ hF).mono ?_
  rintro e w3 ⟨rfl, M, q1, q2, hL⟩
  have HL3 : Hid (Led T w0 w3 (l.set i (arena g (s.allocA 1).1) ++ chanL c (s.C.length : Int) M q1 q2 [] [])) := by
    have := Led.swapEnd (a := []) (b := chanL c (s.C.length : Int) M q1 q2 [] []) (c := l.set i (arena g (s.allocA 1).1)) (by simpa using hb _ _ hL)
    simpa [Hid] using this
  clear hL hb hF h2 HL2
  go_wp2
  go_step3
  go_wp2
  refine jump_ret ?_
  go_ret2
  exact ⟨c, M, q1, q2, rfl, HL3.out⟩
theorem Led.chNew_full {T : List Nat} {w0 w : World} {l : List Thing} {g : Nat} {s : Ar} (h : Led T w0 w l) (i : Nat) (hi : l[i]? = some (arena g s)) (hok : ¬ s.C.length + 1 ≤ s.most) :
    Calls Tryd.prog 9 #[.pointer (some ⟨g, 0, none⟩)] w fun e w' => e = .returned (.tuple #[.pointer none, .int .i64 6]) ∧ Led T w0 w' (l.set i (arena g (s.allocA 1).1)) := by
  have hal := h.ar i hi (fun fp hI => SpinNew_any w g fp s hI)
  have hm := (h.artAll i hi).2.2
  have e1 : (s.allocA 1).2.1 = 0 ∧ (s.allocA 1).2.2 = 6 := by unfold Ar.allocA; rw [if_neg (by omega), if_pos (by omega)]; exact ⟨rfl, rfl⟩
  rw [e1.1, e1.2] at hal
  have HA := Lib.hid hal
  clear hal e1 h hi
  go_enter Tryd.func9, Tryd.ntmps9
  go_wp2
  refine wp_scope_fwd 0 rfl ?_
  go_wp2_with fail
  refine HA.out.mono ?_
  rintro e w1 ⟨rfl, hL⟩
  have HL := Lib.hid hL
  clear hL HA
  go_wp2
  go_step3
  refine ⟨rfl, ?_⟩
  go_wp2
  refine noGoto_ret' ?_
  go_ret2
  exact ⟨rfl, HL.out⟩
theorem try_l (w : World) (a : Int) (p : Option Addr) (R : World → Prop) (b : Bool) (er : Int) (hf : ∀ W, Touch [] w W → Calls Tryd.prog 76 #[.pointer p, .int .i64 a] W fun e w' => e = .returned (.tuple #[.bool b, .int .i64 er]) ∧ R w') : Calls Tryd.prog 57 #[.agg #[.int .i64 a], .pointer p] w fun e w' => e = .returned (.tuple #[.bool b, .int .i64 er]) ∧ R w' := by
  have HF := Lib.hid (hf _ ((Touch.refl [] w).alloc (.cells #[.int .i64 a] 72)))
  clear hf
  go_enter Tryd.func57, Tryd.ntmps57
  go_wp2_with fail
  refine HF.out.mono ?_
  rintro e w' ⟨rfl, hr⟩
  have HR := Lib.hid hr
  clear hr
  go_wp2
  go_ret2
  exact ⟨rfl, HR.out⟩
theorem free_l (w : World) (a : Int) (p : Option Addr) (R : World → Prop) (er : Int) (hf : ∀ W, Touch [] w W → Calls Tryd.prog 77 #[.pointer p, .int .i64 a] W fun e w' => e = .returned (.int .i64 er) ∧ R w') : Calls Tryd.prog 58 #[.agg #[.int .i64 a], .pointer p] w fun e w' => e = .returned (.int .i64 er) ∧ R w' := by
  have HF := Lib.hid (hf _ ((Touch.refl [] w).alloc (.cells #[.int .i64 a] 72)))
  clear hf
  go_enter Tryd.func58, Tryd.ntmps58
  go_wp2_with fail
  refine HF.out.mono ?_
  rintro e w' ⟨rfl, hr⟩
  have HR := Lib.hid hr
  clear hr
  go_wp2
  go_ret
  exact ⟨rfl, HR.out⟩
section
variable (w : World) (c : Nat) (a : Int) (M q1 q2 : Nat) (hc : ChAt w c a M q1 q2) (p : Option Addr) (R : World → Prop)
include hc
/-- Lock, over whatever Try tells. -/
theorem Lock_ch (b : Bool) (er : Int) (hf : ∀ W, Touch [] w W → Calls Tryd.prog 76 #[.pointer p, .int .i64 a] W fun e w' => e = .returned (.tuple #[.bool b, .int .i64 er]) ∧ R w') : Calls Tryd.prog 21 #[.pointer (some ⟨c, 0, none⟩), .pointer p] w fun e w' => e = .returned (.tuple #[.bool b, .int .i64 er]) ∧ R w' := by
  obtain ⟨c0, c1, hl, hl1⟩ := hc.cells
  have HC := Lib.hid hc
  have HT := Lib.hid (try_l w a p R b er hf)
  clear hc hf
  go_enter Tryd.func21, Tryd.ntmps21
  go_wp2_with fail
  refine (chnone_no _ _ _ _ _ _ HC.out).mono ?_
  rintro e w' ⟨rfl, rfl⟩
  go_wp2_with fail
  refine HT.out.mono ?_
  rintro e w' ⟨rfl, hr⟩
  have HR := Lib.hid hr
  clear hr
  go_wp2
  go_ret2
  exact ⟨rfl, HR.out⟩
theorem Unlock_ch (er : Int) (hf : ∀ W, Touch [] w W → Calls Tryd.prog 77 #[.pointer p, .int .i64 a] W fun e w' => e = .returned (.int .i64 er) ∧ R w') : Calls Tryd.prog 22 #[.pointer (some ⟨c, 0, none⟩), .pointer p] w fun e w' => e = .returned (.int .i64 er) ∧ R w' := by
  obtain ⟨c0, c1, hl, hl1⟩ := hc.cells
  have HC := Lib.hid hc
  have HT := Lib.hid (free_l w a p R er hf)
  clear hc hf
  go_enter Tryd.func22, Tryd.ntmps22
  go_wp2_with fail
  refine (chnone_no _ _ _ _ _ _ HC.out).mono ?_
  rintro e w' ⟨rfl, rfl⟩
  go_wp2_with fail
  refine HT.out.mono ?_
  rintro e w' ⟨rfl, hr⟩
  have HR := Lib.hid hr
  clear hr
  go_wp2
  go_ret
  exact ⟨rfl, HR.out⟩
end
section
variable {T : List Nat} {w0 w : World} {l : List Thing} {g c M q1 q2 : Nat} {a : Int} {s : Ar}
theorem Led.chLock (h : Led T w0 w l) (i : Nat) (hi : l[i]? = some (arena g s)) (hc : ChAt w c a M q1 q2) (hn : s.L.length < 4611686018427387904) :
    Calls Tryd.prog 21 #[.pointer (some ⟨c, 0, none⟩), .pointer (some ⟨g, 0, none⟩)] w fun e w' => e = .returned (.tuple #[.bool (s.swap a 0 1).2.1.did, .int .i64 ((s.swap a 0 1).2.2 : Int)]) ∧ Led T w0 w' (l.set i (arena g (s.swap a 0 1).1)) :=
  Lock_ch w c a M q1 q2 hc _ (fun w' => Led T w0 w' (l.set i (arena g (s.swap a 0 1).1))) _ _ (fun W hW => (h.touch hW).ar i hi (fun fp hI => Try_any W g fp s hI a hn))
theorem Led.chUnlock (h : Led T w0 w l) (i : Nat) (hi : l[i]? = some (arena g s)) (hc : ChAt w c a M q1 q2) (hn : s.L.length < 4611686018427387904) :
    Calls Tryd.prog 22 #[.pointer (some ⟨c, 0, none⟩), .pointer (some ⟨g, 0, none⟩)] w fun e w' => e = .returned (.int .i64 (s.freeE a : Int)) ∧ Led T w0 w' (l.set i (arena g (s.swap a 1 0).1)) :=
  Unlock_ch w c a M q1 q2 hc _ (fun w' => Led T w0 w' (l.set i (arena g (s.swap a 1 0).1))) _ (fun W hW => (h.touch hW).ar i hi (fun fp hI => Free_any W g fp s hI a hn))
end
end Go.Proofs.YtihmbgdkllmkaaaDoor

/-
  The law's works() of layer 13 (betrothallaw13/law.go): it returns true, and nothing that was there has turned.
-/
namespace Go.Proofs.YtihmbgdkllmkaaaDoor
open Go.RowKit Go.Shelf
set_option maxRecDepth 100000
set_option linter.unusedVariables false
set_option linter.unusedSimpArgs false
attribute [local go_sem] Oper.semAt_some

/-- The entry of a synchronization and a thread. -/
def ofE (s t : Int) : ME := ⟨s, t, 0, 0, MT.zero⟩
theorem build_of (s t : Int) (w : World) : (Instr.build 42 #[(0, .int .i64 s), (1, .int .i64 t)]).run Tryd.prog w = .ok (ofE s t).val w := run_build w 42 _ _ (by kernel_rfl)
theorem PushR.all {n : Nat} {xs : List PE} {k : Nat} {err : Int} (h : PushR n xs k err) (hok : ∀ x ∈ xs, x.Ok) (hn : n + xs.length ≤ 4096) : k = xs.length ∧ err = 0 := by
  obtain ⟨_, h2, h3, h4 | ⟨hk, h4 | h4⟩⟩ := h
  · exact ⟨h4.2, h4.1⟩
  · exact absurd (hok _ (List.getElem_mem hk)) h4.2
  · omega
theorem PushR.bad {n : Nat} {x : PE} {xs : List PE} {k : Nat} {err : Int} (h : PushR n (x :: xs) k err) (hb : ¬ x.Ok) : k = 0 ∧ err = 2 := by
  obtain ⟨h1, h2, h3, h4⟩ := h
  have hk : k = 0 := by
    by_cases hk : k = 0
    · exact hk
    · exact absurd (h1 0 (by simp) (by omega)) hb
  subst hk
  rcases h4 with h4 | ⟨hk, h4 | h4⟩
  · simp at h4
  · exact ⟨rfl, h4.1⟩
  · exact absurd h4.2.1 hb
/-- The plain entry of a synchronization and a thread. -/
def pOf (s t : Int) : PE := ⟨s, t, 0, 0, .mk 0 0 []⟩
theorem plain_of (s t : Int) : (ofE s t).plain = pOf s t := rfl
theorem pOf_ok {s t : Int} (hs : 0 ≤ s) (ht : 0 ≤ t) : (pOf s t).Ok := ⟨hs, ht, Int.le_refl 0, Int.le_refl 0, .inl rfl⟩
theorem pOf_nodes {x : ME} {s t : Int} (h : x.plain = pOf s t) : x.v.nodes ≤ 256 := by
  have h1 : x.v.plain = .mk 0 0 [] := congrArg PE.v h
  have h2 := MT.plain_nodes x.v
  rw [h1] at h2
  simp [MT.PT.nodes, MT.PT.nodesAll] at h2
  omega
theorem three_of {ys : List ME} {a b c : PE} (h : ys.map ME.plain = [a, b, c]) : ∃ y1 y2 y3, ys = [y1, y2, y3] ∧ y1.plain = a ∧ y2.plain = b ∧ y3.plain = c := by
  match ys, h with
  | [y1, y2, y3], h => simp at h; exact ⟨y1, y2, y3, rfl, h⟩
theorem f13a : IdxR (fun e => e.sync = 2) [pOf 1 7, pOf 2 8, pOf 1 7] 0 1 := .inr ⟨1, by decide, rfl, by decide, rfl, fun i hi _ hlt => by (have : i = 0 := by omega); subst this; simp [pOf]⟩
theorem f13b : IdxR (fun e => e.sync = 9) [pOf 1 7, pOf 2 8, pOf 1 7] 0 (-1) := .inl ⟨rfl, fun j hj _ => by match j, hj with | 0, _ => simp [pOf] | 1, _ => simp [pOf] | 2, _ => simp [pOf]⟩
theorem f13c : NextR (fun e => e.thread ≠ 7) [pOf 1 7, pOf 2 8, pOf 1 7] 0 1 true := ⟨1, .inr ⟨1, by decide, rfl, by decide, by simp [pOf], fun i hi _ hlt => by (have : i = 0 := by omega); subst this; simp [pOf]⟩, rfl, by decide⟩
theorem f13d : NextR (fun e => e.thread ≠ 7) [pOf 1 7, pOf 2 8, pOf 1 7] 2 0 false := ⟨-1, .inl ⟨rfl, fun j hj h => by match j, hj with | 0, _ => exact absurd h (by decide) | 1, _ => exact absurd h (by decide) | 2, _ => simp [pOf]⟩, rfl, by decide⟩
theorem purge13 {y2 y3 : ME} (e2 : y2.plain = pOf 2 8) (e3 : y3.plain = pOf 1 7) : ([y2, y3].filter fun e => !decide (e.plain.sync ∈ [1, 9])) = [y2] := by simp [e2, e3, pOf]
theorem SameEntry_of (x : ME) (s t : Int) (w : World) (hx : x.v.In w) (hp : x.plain = pOf s t) : Calls Tryd.prog 52 #[.agg #[.int .i64 x.sync, .int .i64 x.thread, .int .i64 x.branch, .int .i64 x.flag, .int .i64 x.v.kind, .int .i64 x.v.num, .slice x.v.addr x.v.parts.length x.v.cap], .agg #[.int .i64 s, .int .i64 t, .int .i64 0, .int .i64 0, .int .i64 0, .int .i64 0, .slice none 0 0]] w fun e w' => e = .returned (.bool true) ∧ Touch [] w w' := by
  have hn := pOf_nodes hp
  refine (SameEntry_ref x (ofE s t) w hx (MT.in_zero w) (by omega) (show MT.zero.nodes ≤ 1048576 by decide)).mono ?_
  rintro e w' ⟨c, rfl, hc, ht⟩
  obtain rfl : c = true := hc.2 ⟨hn, show MT.zero.nodes ≤ 256 by decide, hp⟩
  exact ⟨rfl, ht⟩
end Go.Proofs.YtihmbgdkllmkaaaDoor

/-
  A scope through which a fenced run goes without a goto. No program is in sight. (The kit's wp_scope_straight, fenced.)
-/
namespace Go.Proofs.YtihmbgdkllmkaaaDoor

section
variable {F : Fence} {n : Nat} {P : Program} {b : Frame} {a : Act} {k : List Item} {cs : List Frame} {w : World} {Q : Exit → Act → World → Prop}
theorem stepR_scope {c : Code} : step P (lone (b.atR a (.code (.scope c) :: k)) cs w) = .next (lone (b.atR a (.code c :: .inScope c :: k)) cs w) :=
  step_lone_go (by simp [stepG, stepG.exec, Frame.atR])
theorem stepR_inScope {c : Code} : step P (lone (b.atR a (.inScope c :: k)) cs w) = .next (lone (b.atR a k) cs w) :=
  step_lone_go (by simp [stepG, stepG.exec, Frame.atR])
theorem wpIn_scope_straight {c : Code} (h : c.wpIn F n P (Exit.noGoto Q) a w) : (Code.scope c).wpIn F n P Q a w := by
  intro b k cs hro hb hr
  have h0 : (lone (b.atR a (.code (.scope c) :: k)) cs w).fenced P F := fenced_calm hb hr rfl
  obtain ⟨e, a₁, w₁, hq, harr⟩ := h b (.inScope c :: k) cs hro hb hr
  cases e with
  | normal => exact ⟨.normal, a₁, w₁, hq, .head h0 stepR_scope (StepsIn.trans harr (.one (fenced_calm hb hr rfl) stepR_inScope))⟩
  | exit id =>
    have hx : exitTo id (.inScope c :: k) = exitTo id k := by simp [exitTo]
    exact ⟨.exit id, a₁, w₁, hq, fun k' hk => .head h0 stepR_scope (harr.1 k' (by rw [hx]; exact hk)),
      fun hr' hk => let ⟨k₁, h1, h2⟩ := harr.2 hr' (by rw [hx]; exact hk); ⟨k₁, h1, .head h0 stepR_scope h2⟩⟩
  | goto l => exact hq.elim
  | ret => exact ⟨_, a₁, w₁, hq, .of_steps (.one h0 stepR_scope) harr⟩
  | panic ch => exact ⟨_, a₁, w₁, hq, .of_steps (.one h0 stepR_scope) harr⟩
  | outgrown => exact ⟨_, a₁, w₁, hq, .of_steps (.one h0 stepR_scope) harr⟩
theorem noGoto_normal {a : Act} {w : World} (h : Q .normal a w) : Exit.noGoto Q .normal a w := h
end
end Go.Proofs.YtihmbgdkllmkaaaDoor

/-
  How a function with one result in a cell, a bool, returns: with the ledger.
-/
namespace Go.Proofs.YtihmbgdkllmkaaaDoor
open Go.RowKit Go.Shelf
set_option linter.unusedVariables false

theorem results_bool {fn : Func} {ra : Tmp} (hres : fn.results = #[ResultVar.cell ra 4]) {tmps : Array Value} {b : Nat} (htm : tmps.getD ra undef = .pointer (some ⟨b, 0, none⟩)) {W : World} {c : Bool} (hc : W.cell? ⟨b, 0, none⟩ = some (.bool c)) :
    (results fn tmps).run Tryd.prog W = .ok (.bool c) W := by
  rw [Array.getD_eq_getD_getElem?] at htm
  simp only [results, hres]
  simp [go_sem, htm, hc]
theorem Led.c1w {T : List Nat} {w0 w : World} {l : List Thing} (h : Led T w0 w l) (i : Nat) {b : Nat} {t : TypeId} {x0 : Value} (hi : l[i]? = some (Proofs.YtihmbgdkllmkaaaDoor.box b t #[x0])) : w.cell? ⟨b, 0, none⟩ = some x0 := (h.c1 i hi).1

section
variable {n : Nat} {T : List Nat} {w W : World} {l : List Thing} {fn : Func} {ra : Tmp} (hres : fn.results = #[ResultVar.cell ra 4]) {tmps : Array Value} {b : Nat} (htm : tmps.getD ra undef = .pointer (some ⟨b, 0, none⟩))
  (HK : Led T w W l) (i : Nat) {u : Value} (hi : l[i]? = some (box b 4 #[u])) {c : Bool} (hc : c = true) {R : Ending → World → Prop}
include hres htm HK hi hc
theorem led_ret0 (hR : ∀ W', Led T w W' (l.set i (box b 4 #[.bool true])) → R (.returned (.bool true)) W') :
    bodyPostM Fence.wide n Tryd.prog fn R .ret { tmps := tmps, defers := [] } (W.setCell ⟨b, 0, none⟩ (.bool c)) := by
  subst hc
  have h1 := HK.set i hi 0 (.bool true)
  have hi' := (List.getElem?_eq_some_iff.1 hi).1
  have e1 : #[u].setIfInBounds 0 (.bool true) = #[.bool true] := rfl
  rw [e1] at h1
  exact leave_marks (v := .bool true) [] _ (by simp) (by simp) (results_bool hres htm (h1.c1w (t := 4) i (by rw [List.getElem?_set_self hi']))) (hR _ h1)
theorem led_ret1 {D : Nat} (m : Nat) (hm : l[m]? = some (mark D)) (hR : ∀ W', Led T w W' ((l.set i (box b 4 #[.bool true])).set m (some1 D)) → R (.returned (.bool true)) W') :
    bodyPostM Fence.wide n Tryd.prog fn R .ret { tmps := tmps, defers := [{ target := .collected D, args := #[] }] } (W.setCell ⟨b, 0, none⟩ (.bool c)) := by
  subst hc
  have h1 := HK.set i hi 0 (.bool true)
  have hi' := (List.getElem?_eq_some_iff.1 hi).1
  have e1 : #[u].setIfInBounds 0 (.bool true) = #[.bool true] := rfl
  rw [e1] at h1
  have hne : i ≠ m := by
    rintro rfl
    rw [hi] at hm
    have := congrArg (fun t => t.map fun t => t.holds w [D]) hm
    have h2 := HK.get i hi
    obtain ⟨f, ⟨hf, hb⟩, _⟩ := h2
    obtain ⟨f', ⟨hf', hb'⟩, _⟩ := HK.get i (hi.trans hm)
    obtain ⟨f3, ⟨hf3, hb3⟩, _⟩ := HK.get i (t := mark D) (hi.trans hm)
    have e := Option.some.inj hm
    have h5 : (box b 4 #[u]).holds W [b] := ⟨rfl, hb⟩
    rw [e] at h5
    obtain ⟨h6, h7⟩ := h5
    have : b = D := by simpa using h6
    subst this
    unfold Blk at hb
    rw [hb] at h7
    cases h7
  have hm1 : (l.set i (box b 4 #[.bool true]))[m]? = some (mark D) := by rw [List.getElem?_set_ne hne]; exact hm
  have h2 := h1.shut m hm1
  refine leave_marks (v := .bool true) [D] _ (by simpa using h1.mark m hm1) (by simp) (results_bool hres htm (h2.c1w (t := 4) i ?_)) (hR _ h2)
  rw [List.getElem?_set_ne hne.symm, List.getElem?_set_self hi']
theorem led_ret2 {D D' : Nat} (m m' : Nat) (hm : l[m]? = some (mark D)) (hm' : l[m']? = some (mark D')) (hmm : m ≠ m') (him : i ≠ m) (him' : i ≠ m') (hR : ∀ W', Led T w W' (((l.set i (box b 4 #[.bool true])).set m (some1 D)).set m' (some1 D')) → R (.returned (.bool true)) W') :
    bodyPostM Fence.wide n Tryd.prog fn R .ret { tmps := tmps, defers := [{ target := .collected D, args := #[] }, { target := .collected D', args := #[] }] } (W.setCell ⟨b, 0, none⟩ (.bool c)) := by
  subst hc
  have h1 := HK.set i hi 0 (.bool true)
  have hi' := (List.getElem?_eq_some_iff.1 hi).1
  have e1 : #[u].setIfInBounds 0 (.bool true) = #[.bool true] := rfl
  rw [e1] at h1
  have hm1 : (l.set i (box b 4 #[.bool true]))[m]? = some (mark D) := by rw [List.getElem?_set_ne him]; exact hm
  have hm1' : (l.set i (box b 4 #[.bool true]))[m']? = some (mark D') := by rw [List.getElem?_set_ne him']; exact hm'
  have hDD : D ≠ D' := by
    obtain ⟨_, F, g1, g2⟩ := h1
    have a1 := (g1 m _ hm1).1.1
    have a2 := (g1 m' _ hm1').1.1
    have := g2 m m' (List.getElem?_eq_some_iff.1 hm1).1 (List.getElem?_eq_some_iff.1 hm1').1 hmm D (by rw [a1]; simp)
    rw [a2] at this
    simpa using this
  have h2 := h1.shut m hm1
  have hm2' : ((l.set i (box b 4 #[.bool true])).set m (some1 D))[m']? = some (mark D') := by rw [List.getElem?_set_ne hmm]; exact hm1'
  have h3 := h2.shut m' hm2'
  refine leave_marks (v := .bool true) [D, D'] _ (by simpa using ⟨h1.mark m hm1, h1.mark m' hm1'⟩) (by simpa using hDD) (results_bool hres htm (h3.c1w (t := 4) i ?_)) (hR _ h3)
  rw [List.getElem?_set_ne him'.symm, List.getElem?_set_ne him.symm, List.getElem?_set_self hi']
end
end Go.Proofs.YtihmbgdkllmkaaaDoor

/-
  Layer 13: the methods of no queue (nil, or one that was not made).
-/
namespace Go.Proofs.YtihmbgdkllmkaaaDoor
open Go.RowKit Go.Shelf
set_option maxRecDepth 100000
set_option linter.unusedVariables false
set_option linter.unusedSimpArgs false

/-- There is no queue. -/
def NoQ (W : World) (p : Option Addr) : Prop := p = none ∨ ∃ g, p = some ⟨g, 0, none⟩ ∧ W.cell? ⟨g, 0, none⟩ = some (.bool false)
theorem NoQ.touch {w w' : World} {p : Option Addr} (h : NoQ w p) (ht : Touch [] w w') : NoQ w' p := by
  rcases h with h | ⟨g, h1, h2⟩
  · exact .inl h
  · exact .inr ⟨g, h1, ht.cellOf h2⟩
theorem none_n (w : World) (p : Option Addr) (h : NoQ w p) : Calls Tryd.prog 65 #[.pointer p] w fun e w' => e = .returned (.bool true) ∧ w = w' := by
  rcases h with rfl | ⟨g, rfl, h⟩
  · exact none_nil w
  · exact none_zero g w h
theorem Len_n (w : World) (p : Option Addr) (h : NoQ w p) : Calls Tryd.prog 42 #[.pointer p] w fun e w' => e = .returned (.int .i64 0) ∧ Touch [] w w' := by
  have HN := Lib.hid (fun W (hW : Touch [] w W) => none_n W p (h.touch hW))
  clear h
  go_enter Tryd.func42, Tryd.ntmps42
  go_wp2_with fail
  refine (HN.out _ (Touch.refl [] w)).mono ?_
  rintro e w' ⟨rfl, rfl⟩
  go_wp2
  all_goals go_ret
  exact ⟨rfl, Touch.refl [] _⟩
theorem Copy_n (w : World) (p : Option Addr) (h : NoQ w p) : Calls Tryd.prog 60 #[.pointer p] w fun e w' => e = .returned (.pointer none) ∧ Touch [] w w' := by
  have HN := Lib.hid (fun W (hW : Touch [] w W) => none_n W p (h.touch hW))
  clear h
  go_enter Tryd.func60, Tryd.ntmps60
  go_wp2_with fail
  refine (HN.out _ (Touch.refl [] w)).mono ?_
  rintro e w' ⟨rfl, rfl⟩
  go_wp2
  all_goals go_ret
  exact ⟨rfl, Touch.refl [] _⟩
theorem At_n (w : World) (p : Option Addr) (h : NoQ w p) (z : Int) : Calls Tryd.prog 44 #[.pointer p, .int .i64 z] w fun e w' => e = .returned (.tuple #[ME.zero.val, .bool false]) ∧ Touch [] w w' := by
  have hbe := build_ent
  simp only [ent_eq, ME.zero, MT.zero, MT.kind, MT.num, MT.addr, MT.parts, MT.cap, List.length_nil] at hbe
  have HN := Lib.hid (fun W (hW : Touch [] w W) => none_n W p (h.touch hW))
  clear h
  go_enter Tryd.func44, Tryd.ntmps44
  go_wp2_with fail
  refine wp_calls_name ?_
  intro w1 hw1
  have HL1 := Lib.hid ((Led.nil' w).al1 hw1)
  simp only [List.nil_append, List.cons_append] at HL1
  obtain ⟨b4, hb4⟩ : ∃ b, w.heap.size = b := ⟨_, rfl⟩
  rw [hb4] at HL1 ⊢
  clear hb4 hw1
  refine (HN.out _ HL1.out.tch).mono ?_
  rintro e w' ⟨rfl, rfl⟩
  obtain ⟨r0, r1, r2, r3, r4, r5, r6, ⟨f0, f1, f2, f3, f4, f5, f6⟩, zr, _, _⟩ := HL1.out.c7 0 rfl
  go_wp2
  have HL2 := Lib.hid (HL1.out.setEnt 0 rfl 0 0 0 0 0 0 (.slice none 0 0))
  simp only [List.set_cons_zero] at HL2
  obtain ⟨s0, s1, s2, s3, s4, s5, s6, _⟩ := HL2.out.c7 0 rfl
  refine bodyPost_ret (v := .tuple #[ME.zero.val, .bool false]) (by simp [results, Tryd.results44, go_sem, s0, s1, s2, s3, s4, s5, s6, ent_eq, ME.zero, MT.zero, MT.kind, MT.num, MT.addr, MT.parts, MT.cap]) rfl ?_
  exact ⟨rfl, HL2.out.tch⟩
theorem Drop_n (w : World) (p : Option Addr) (h : NoQ w p) (z : Int) : Calls Tryd.prog 36 #[.pointer p, .int .i64 z] w fun e w' => e = .returned (.tuple #[ME.zero.val, .bool false]) ∧ Touch [] w w' := by
  have hbe := build_ent
  simp only [ent_eq, ME.zero, MT.zero, MT.kind, MT.num, MT.addr, MT.parts, MT.cap, List.length_nil] at hbe
  have HN := Lib.hid (fun W (hW : Touch [] w W) => none_n W p (h.touch hW))
  clear h
  go_enter Tryd.func36, Tryd.ntmps36
  go_wp2_with fail
  refine wp_calls_name ?_
  intro w1 hw1
  have HL1 := Lib.hid ((Led.nil' w).al1 hw1)
  simp only [List.nil_append, List.cons_append] at HL1
  obtain ⟨b4, hb4⟩ : ∃ b, w.heap.size = b := ⟨_, rfl⟩
  rw [hb4] at HL1 ⊢
  clear hb4 hw1
  refine (HN.out _ HL1.out.tch).mono ?_
  rintro e w' ⟨rfl, rfl⟩
  obtain ⟨r0, r1, r2, r3, r4, r5, r6, ⟨f0, f1, f2, f3, f4, f5, f6⟩, zr, _, _⟩ := HL1.out.c7 0 rfl
  go_wp2
  have HL2 := Lib.hid (HL1.out.setEnt 0 rfl 0 0 0 0 0 0 (.slice none 0 0))
  simp only [List.set_cons_zero] at HL2
  obtain ⟨s0, s1, s2, s3, s4, s5, s6, _⟩ := HL2.out.c7 0 rfl
  refine bodyPost_ret (v := .tuple #[ME.zero.val, .bool false]) (by simp [results, Tryd.results36, go_sem, s0, s1, s2, s3, s4, s5, s6, ent_eq, ME.zero, MT.zero, MT.kind, MT.num, MT.addr, MT.parts, MT.cap]) rfl ?_
  exact ⟨rfl, HL2.out.tch⟩
theorem Push_n (w : World) (p : Option Addr) (h : NoQ w p) (a : Option Addr) (n c : Nat) : Calls Tryd.prog 39 #[.pointer p, .slice a n c] w fun e w' => e = .returned (.int .i64 1) ∧ Touch [] w w' := by
  have HN := Lib.hid (fun W (hW : Touch [] w W) => none_n W p (h.touch hW))
  clear h
  go_enter Tryd.func39, Tryd.ntmps39
  go_wp2
  refine wp_scope_fwd 0 rfl ?_
  go_wp2_with fail
  refine (HN.out _ (Touch.refl [] w)).mono ?_
  rintro e w' ⟨rfl, rfl⟩
  go_wp2
  go_step3
  refine ⟨rfl, ?_⟩
  go_wp2
  refine noGoto_ret' ?_
  go_ret
  exact ⟨rfl, Touch.refl [] _⟩
theorem All_n (w : World) (p : Option Addr) (h : NoQ w p) : Calls Tryd.prog 59 #[.pointer p] w fun e w' => ∃ bx, e = .returned (.func (.func 79) #[] #[.pointer (some ⟨bx, 0, none⟩)]) ∧ Led [] w w' [allT bx (.slice none 0 0) []] := by
  have HN := Lib.hid (fun W (hW : Touch [] w W) => none_n W p (h.touch hW))
  clear h
  go_enter Tryd.func59, Tryd.ntmps59
  go_wp2_with fail
  refine wp_calls_name ?_
  intro w1 hw1
  have HL1 := Lib.hid (((Led.nil' w).al1 hw1).rowSnil 42 7).vals0
  simp only [List.nil_append, List.cons_append] at HL1
  obtain ⟨b3, hb3⟩ : ∃ b, w.heap.size = b := ⟨_, rfl⟩
  rw [hb3] at HL1 ⊢
  clear hb3 hw1
  refine (HN.out _ HL1.out.tch).mono ?_
  rintro e w' ⟨rfl, rfl⟩
  go_wp2
  go_ret
  exact ⟨b3, rfl, Led.shutAll (l := []) (ys := []) rfl HL1.out⟩
end Go.Proofs.YtihmbgdkllmkaaaDoor

/-
  The reference of layer 13 (betrothalref13/ref.go): At, Find, Next: calls that only read.
-/
namespace Go.Proofs.YtihmbgdkllmkaaaDoor
open Go.RowKit Go.Shelf
set_option maxRecDepth 100000
set_option linter.unusedVariables false
set_option linter.unusedSimpArgs false

/-- What the reference's At tells: the entry itself. -/
def AtRef (rs : List ME) (i : Int) (x : ME) (c : Bool) : Prop := (c = true ∧ 0 ≤ i ∧ rs[i.toNat]? = some x) ∨ (c = false ∧ ¬ (0 ≤ i ∧ i < (rs.length : Int)) ∧ x = ME.zero)
theorem AtRef.inq {rs : List ME} {i : Int} {x : ME} {c : Bool} (h : AtRef rs i x c) {p : ME → Prop} (h0 : p ME.zero) (hp : ∀ r ∈ rs, p r) : p x := by
  rcases h with ⟨_, _, h⟩ | ⟨_, _, rfl⟩
  · exact hp x (List.mem_of_getElem? h)
  · exact h0
theorem AtRef.plain {rs : List ME} {es : List PE} {i : Int} {x y : ME} {c d : Bool} (h : AtRef rs i x c) (hy : AtR es i y d) (he : es = rs.map ME.plain) : y.plain = x.plain ∧ d = c := by
  subst he
  rcases h with ⟨rfl, h1, h2⟩ | ⟨rfl, h1, rfl⟩
  · have hlt := (List.getElem?_eq_some_iff.1 h2).1
    rcases hy with ⟨rfl, h3, h4⟩ | ⟨rfl, h3, rfl⟩
    · rw [List.getElem?_map, h2] at h4
      simp at h4
      exact ⟨h4.symm, rfl⟩
    · simp only [List.length_map] at h3
      omega
  · rcases hy with ⟨rfl, h3, h4⟩ | ⟨rfl, h3, rfl⟩
    · have hlt := (List.getElem?_eq_some_iff.1 h4).1
      simp only [List.length_map] at hlt
      omega
    · exact ⟨rfl, rfl⟩
def AtToldR (rs : List ME) (i : Int) (w : World) (e : Ending) (w' : World) : Prop := ∃ x c, e = .returned (.tuple #[x.val, .bool c]) ∧ AtRef rs i x c ∧ Touch [] w w'
set_option maxHeartbeats 2000000 in
theorem At_ref (w : World) (a : Option Addr) (cap : Nat) (rs : List ME) (i : Int) (he : EntsAt w a rs) : Calls Tryd.prog 72 #[.agg #[.slice a rs.length cap], .int .i64 i] w (AtToldR rs i w) := by
  have hbe := build_ent
  simp only [ent_eq, ME.zero, MT.zero, MT.kind, MT.num, MT.addr, MT.parts, MT.cap, List.length_nil] at hbe
  by_cases hin : 0 ≤ i ∧ i < (rs.length : Int)
  · obtain ⟨k, rfl⟩ := Int.eq_ofNat_of_zero_le hin.1
    have hk : k < rs.length := by omega
    have hk1 : ¬ (k : Int) < 0 := by omega
    have hk2 : ¬ (rs.length : Int) ≤ (k : Int) := by omega
    have hk3 : ¬ rs.length ≤ k := by omega
    have hk4 : (k : Int) < (rs.length : Int) := by omega
    have hk0 : (0 : Int) ≤ (k : Int) := by omega
    obtain ⟨b, o, rfl, hbb, p0, p1, p2, p3, p4, p5, p6⟩ := he k hk
    have HXJ : Hid (rs[k]? = some rs[k]) := by unfold Hid; simp [hk]
    generalize rs[k] = x at p0 p1 p2 p3 p4 p5 p6 HXJ
    have HY1 : Hid (EntAt w b (o + k * 7) x) := ⟨p0, p1, p2, p3, p4, p5, p6⟩
    clear he hin p0 p1 p2 p3 p4 p5 p6
    go_enter Tryd.func72, Tryd.ntmps72
    go_upto_region 1 with fail
    refine wp_name ?_
    intro w1 hw1
    have HL := Lib.hid ((Led.nil' w).al2 hw1)
    have HTT := Lib.hid HL.out.tch
    simp only [List.nil_append, List.cons_append] at HL
    obtain ⟨b4, hb4⟩ : ∃ b, w.heap.size + 1 = b := ⟨_, rfl⟩
    rw [hb4] at HL ⊢
    obtain ⟨b2, hb2⟩ : ∃ b, w.heap.size = b := ⟨_, rfl⟩
    rw [hb2] at HL ⊢
    clear hw1 hb4 hb2
    obtain ⟨q0, fq, zq, _, _⟩ := HL.out.c1 0 rfl
    obtain ⟨_, _, _, _, _, _, _, _, zr, _, _⟩ := HL.out.c7 1 rfl
    obtain ⟨p0, p1, p2, p3, p4, p5, p6⟩ := HY1.out.touch HTT.out
    have zb : b < w1.heap.size := Nat.lt_of_lt_of_le hbb HTT.out.size
    go_wp2
    have HL5 := Lib.hid (HL.out.setEnt 1 rfl x.sync x.thread x.branch x.flag x.v.kind x.v.num (.slice x.v.addr x.v.parts.length x.v.cap))
    simp only [List.set_cons_zero, List.set_cons_succ] at HL5
    obtain ⟨s0, s1, s2, s3, s4, s5, s6, _⟩ := HL5.out.c7 1 rfl
    refine bodyPost_ret (v := .tuple #[x.val, .bool true]) (by simp [results, Tryd.results72, go_sem, s0, s1, s2, s3, s4, s5, s6, ent_eq]) rfl ?_
    exact ⟨x, true, rfl, .inl ⟨rfl, by omega, HXJ.out⟩, HL5.out.tch⟩
  · have HIN := Lib.hid hin
    have hor : i < 0 ∨ (rs.length : Int) ≤ i := by omega
    clear hin he
    rcases hor with hi | hi
    all_goals
      go_enter Tryd.func72, Tryd.ntmps72
      go_upto_region 1 with fail
      refine wp_name ?_
      intro w1 hw1
      have HL := Lib.hid ((Led.nil' w).al2 hw1)
      have HTT := Lib.hid HL.out.tch
      simp only [List.nil_append, List.cons_append] at HL
      obtain ⟨b4, hb4⟩ : ∃ b, w.heap.size + 1 = b := ⟨_, rfl⟩
      rw [hb4] at HL ⊢
      obtain ⟨b2, hb2⟩ : ∃ b, w.heap.size = b := ⟨_, rfl⟩
      rw [hb2] at HL ⊢
      clear hw1 hb4 hb2
      obtain ⟨q0, fq, zq, _, _⟩ := HL.out.c1 0 rfl
      obtain ⟨_, _, _, _, _, _, _, _, zr, _, _⟩ := HL.out.c7 1 rfl
      go_wp2
      have HL5 := Lib.hid (HL.out.setEnt 1 rfl 0 0 0 0 0 0 (.slice none 0 0))
      simp only [List.set_cons_zero, List.set_cons_succ] at HL5
      obtain ⟨s0, s1, s2, s3, s4, s5, s6, _⟩ := HL5.out.c7 1 rfl
      refine bodyPost_ret (v := .tuple #[ME.zero.val, .bool false]) (by simp [results, Tryd.results72, go_sem, s0, s1, s2, s3, s4, s5, s6, ent_eq, ME.zero, MT.zero, MT.kind, MT.num, MT.addr, MT.parts, MT.cap]) rfl ?_
      exact ⟨ME.zero, false, rfl, .inr ⟨rfl, HIN.out, rfl⟩, HL5.out.tch⟩
end Go.Proofs.YtihmbgdkllmkaaaDoor

/-
  The reference of layer 13 (betrothalref13/ref.go): Push, Pushes, Drop, Purge: what they make never turns.
-/
namespace Go.Proofs.YtihmbgdkllmkaaaDoor
open Go.RowKit Go.Shelf
set_option maxRecDepth 100000
set_option linter.unusedVariables false
set_option linter.unusedSimpArgs false

theorem Blk.src {w : World} {g : Nat} {t : TypeId} {cs : Array Value} (h : Blk w g t cs) : ∀ j u, cs.toList[j]? = some u → w.cell? ((⟨g, 0, none⟩ : Addr).add j) = some u := by
  intro j u hu
  rw [Addr.add_lit, Nat.zero_add, h.cell j]
  simpa using hu
theorem build_rq (a : Option Addr) (n c : Nat) (w : World) : (Instr.build 58 #[(0, .slice a n c)]).run Tryd.prog w = .ok (.agg #[.slice a n c]) w := run_build w 58 _ _ (by kernel_rfl)
theorem rowS_le {w : World} {e size n cap : Nat} {a : Option Addr} {xs : List Value} (h : rowS w e size (.slice a n cap) n xs) : n ≤ cap := by
  obtain ⟨a', c', hv, h1, _⟩ := rowS_val h
  injection hv with _ _ h3
  omega
theorem cells_one (x : ME) : ∀ u ∈ x.cells, u.oneCell' = true := by have := ents_one [x]; simpa [entCells] using this
/-- The reference's queue holds rs now, in memory that never turns. -/
def Grew (T : List Nat) (w : World) (P : World → Prop) (a : Option Addr) (rs : List ME) (w' : World) : Prop := ∃ P' : World → Prop, (∀ W, P' W → P W ∧ EntsAt W a rs) ∧ Led T w w' [stillT P']
theorem Grew.same {T : List Nat} {w w' : World} {P : World → Prop} {a : Option Addr} {rs : List ME} {rest : List Thing} (h : Led T w w' (stillT P :: rest)) (hP : ∀ W, P W → EntsAt W a rs) : Grew T w P a rs w' := ⟨P, fun W hW => ⟨hW, hP W hW⟩, Led.sub_end (l := [stillT P]) (m := rest) h⟩
theorem Grew.made {T : List Nat} {w w' : World} {P : World → Prop} {a : Option Addr} {cap n : Nat} {rs : List ME} (hn : rs.length = n) (h : Led T w w' [stillT P, rowT 42 7 (.slice a n cap) n (entCells rs)]) : Grew T w P a rs w' := by
  subst hn
  exact ⟨fun W => P W ∧ EntsAt W a rs, fun W hW => hW, Led.settle (l := [stillT P]) h 0 rfl (fun W f hW hf => ⟨hW, ents_of_rowS hf.2⟩)⟩
/-- What the reference's Push of one entry tells. -/
def PushedR (T : List Nat) (w : World) (P : World → Prop) (rs : List ME) (x : ME) (e : Ending) (w' : World) : Prop :=
  ∃ (err : Int) (a' : Option Addr) (cap' : Nat) (rs' : List ME), e = .returned (.tuple #[.agg #[.slice a' rs'.length cap'], .int .i64 err]) ∧ rs'.length ≤ cap' ∧ ((err = 2 ∧ ¬ x.plain.Ok ∧ rs' = rs) ∨ (err = 6 ∧ x.plain.Ok ∧ rs.length = 4096 ∧ rs' = rs) ∨ (err = 0 ∧ x.plain.Ok ∧ rs.length < 4096 ∧ rs' = rs ++ [x])) ∧ Grew T w P a' rs' w'
set_option maxHeartbeats 4000000 in
theorem Push_ref (T : List Nat) (w : World) (P : World → Prop) (a : Option Addr) (cap : Nat) (rs : List ME) (x : ME) (hcap : rs.length ≤ cap) (h : Led T w w [stillT P]) (hP : ∀ W, P W → EntsAt W a rs ∧ x.v.In W) (hnx : x.v.nodes ≤ 1048576) (hlen : rs.length ≤ 4096) :
    Calls Tryd.prog 71 #[.agg #[.slice a rs.length cap], x.val] w (PushedR T w P rs x) := by
  have HP := Lib.hid hP
  have HL0 := Lib.hid h
  have hbq := build_rq
  obtain ⟨i0, hi0, iz0, iz1, iz2⟩ := info_parts info_ent
  clear h hP
  simp only [ent_eq]
  go_enter Tryd.func71, Tryd.ntmps71
  go_wp2_with fail
  refine wp_calls_name ?_
  intro w1 hw1
  have HL1 := Lib.hid (HL0.out.al3 hw1)
  simp only [List.nil_append, List.cons_append] at HL1
  obtain ⟨b4, hb4⟩ : ∃ b, w.heap.size + 1 + 1 = b := ⟨_, rfl⟩
  rw [hb4] at HL1 ⊢
  obtain ⟨b3, hb3⟩ : ∃ b, w.heap.size + 1 = b := ⟨_, rfl⟩
  rw [hb3] at HL1 ⊢
  obtain ⟨b2, hb2⟩ : ∃ b, w.heap.size = b := ⟨_, rfl⟩
  rw [hb2] at HL1 ⊢
  clear hw1 hb4 hb3 hb2 HL0
  refine (Right_ent x w1 (HP.out _ (HL1.out.still 0 rfl)).2 hnx).mono ?_
  rintro e w3 ⟨cc, rfl, hcc, ht⟩
  have HL3 := Lib.hid (HL1.out.touch ht)
  have HCC := Lib.hid hcc
  clear hcc ht HL1
  obtain ⟨v0, _, hl2, _, _⟩ := HL3.out.c1 1 rfl
  obtain ⟨x0, x1, x2, x3, x4, x5, x6, _, hl3, _, _⟩ := HL3.out.c7 2 rfl
  obtain ⟨u0, uf, hl4, _, _⟩ := HL3.out.c1 3 rfl
  cases cc with
  | false =>
    go_wp2
    have HL4 := Lib.hid (HL3.out.set 3 rfl 0 (.slice a rs.length cap))
    simp only [List.set_cons_succ, List.set_cons_zero, List.setIfInBounds_toArray] at HL4
    obtain ⟨s0, _⟩ := HL4.out.c1 3 rfl
    refine bodyPost_ret (v := .tuple #[.agg #[.slice a rs.length cap], .int .i64 2]) (by simp [results, Tryd.results71, go_sem, s0]) rfl ?_
    exact ⟨2, a, cap, rs, rfl, hcap, .inl ⟨rfl, fun hk => (by have := HCC.out.2 hk; cases this), rfl⟩, Grew.same HL4.out (fun W hW => (HP.out W hW).1)⟩
  | true =>
    have HOK : Hid x.plain.Ok := HCC.out.1 rfl
    clear HCC
    by_cases hfull : rs.length = 4096
    · have hf1 : (4096 : Int) ≤ (rs.length : Int) := by omega
      have HFU := Lib.hid hfull
      clear hfull
      go_wp2
      have HL4 := Lib.hid (HL3.out.set 3 rfl 0 (.slice a rs.length cap))
      simp only [List.set_cons_succ, List.set_cons_zero, List.setIfInBounds_toArray] at HL4
      obtain ⟨s0, _⟩ := HL4.out.c1 3 rfl
      refine bodyPost_ret (v := .tuple #[.agg #[.slice a rs.length cap], .int .i64 6]) (by simp [results, Tryd.results71, go_sem, s0]) rfl ?_
      exact ⟨6, a, cap, rs, rfl, hcap, .inr (.inl ⟨rfl, HOK.out, HFU.out, rfl⟩), Grew.same HL4.out (fun W hW => (HP.out W hW).1)⟩
    · have hf1 : ¬ (4096 : Int) ≤ (rs.length : Int) := by omega
      have n1 := HL3.out.ne 1 3 rfl rfl (by decide)
      have n2 := Ne.symm n1
      have n3 := HL3.out.ne 2 3 rfl rfl (by decide)
      have n4 := Ne.symm n3
      go_wp2_with fail
      have HLa := Lib.hid ((HL3.out.empty 42 7).drew)
      have HLb := Lib.hid (((HL3.out.empty 42 7).alloc 42 #[.int .i64 x.sync, .int .i64 x.thread, .int .i64 x.branch, .int .i64 x.flag, .int .i64 x.v.kind, .int .i64 x.v.num, .slice x.v.addr x.v.parts.length x.v.cap]).drew)
      have HLc := Lib.hid ((((HL3.out.alloc 42 #[.int .i64 x.sync, .int .i64 x.thread, .int .i64 x.branch, .int .i64 x.flag, .int .i64 x.v.kind, .int .i64 x.v.num, .slice x.v.addr x.v.parts.length x.v.cap]).empty 42 7).drew).pick [0, 1, 2, 3, 5, 4] (by decide) (by simp))
      simp only [List.nil_append, List.cons_append, World.size_alloc, List.filterMap_cons, List.filterMap_nil, List.getElem?_cons_zero, List.getElem?_cons_succ] at HLa HLb HLc
      go_region_held3 (fun w' => w'.cell? ⟨b2, 0, none⟩ = some (.slice a rs.length cap) ∧ w'.cell? ⟨b3, 0, none⟩ = some (.int .i64 x.sync) ∧ w'.cell? ⟨b3, 1, none⟩ = some (.int .i64 x.thread) ∧ w'.cell? ⟨b3, 2, none⟩ = some (.int .i64 x.branch) ∧ w'.cell? ⟨b3, 3, none⟩ = some (.int .i64 x.flag) ∧ w'.cell? ⟨b3, 4, none⟩ = some (.int .i64 x.v.kind) ∧ w'.cell? ⟨b3, 5, none⟩ = some (.int .i64 x.v.num) ∧ w'.cell? ⟨b3, 6, none⟩ = some (.slice x.v.addr x.v.parts.length x.v.cap)) (go_keep) (first
        | (refine step_append_S _ (by rfl) (.tmp 15) (.tmp 17) 56 (by rfl) 42 i0 _ 7 72 Tryd.underlying56 hi0 iz0 iz1 iz2 rfl (by decide) (.slice (some ⟨w3.heap.size, 0, none⟩) 0 0) 0 [] (by rfl) (HLa.out.rowSAt 4 rfl) a rs.length cap (entCells rs) (by rfl) (entCells_length rs) (HP.out _ (HLa.out.still 0 rfl)).1.src (ents_one rs) (by simp only [maxLen]; omega) (by omega) ?_; intro a2 c2 w2 hown hgrow hat; simp only [Nat.zero_add, List.nil_append] at hown hat ⊢; have HL4 := Lib.hid (HLa.out.grownS 4 rfl hgrow hown hat); simp only [List.set_cons_succ, List.set_cons_zero] at HL4; obtain ⟨v0, _, hl2, _, _⟩ := HL4.out.c1 1 rfl; obtain ⟨x0, x1, x2, x3, x4, x5, x6, _, hl3, _, _⟩ := HL4.out.c7 2 rfl; obtain ⟨u0, uf, hl4, _, _⟩ := HL4.out.c1 3 rfl; clear hown hgrow hat)
        | (refine step_append_S _ (by rfl) (.tmp 15) (.tmp 17) 56 (by rfl) 42 i0 _ 7 72 Tryd.underlying56 hi0 iz0 iz1 iz2 rfl (by decide) (.slice (some ⟨w3.heap.size, 0, none⟩) 0 0) 0 [] (by rfl) (HLb.out.rowSAt 4 rfl) a rs.length cap (entCells rs) (by rfl) (entCells_length rs) (HP.out _ (HLb.out.still 0 rfl)).1.src (ents_one rs) (by simp only [maxLen]; omega) (by omega) ?_; intro a2 c2 w2 hown hgrow hat; simp only [Nat.zero_add, List.nil_append] at hown hat ⊢; have HL4 := Lib.hid (HLb.out.grownS 4 rfl hgrow hown hat); simp only [List.set_cons_succ, List.set_cons_zero] at HL4; obtain ⟨v0, _, hl2, _, _⟩ := HL4.out.c1 1 rfl; obtain ⟨x0, x1, x2, x3, x4, x5, x6, _, hl3, _, _⟩ := HL4.out.c7 2 rfl; obtain ⟨u0, uf, hl4, _, _⟩ := HL4.out.c1 3 rfl; clear hown hgrow hat)
        | (refine step_append_S _ (by rfl) (.tmp 15) (.tmp 17) 56 (by rfl) 42 i0 _ 7 72 Tryd.underlying56 hi0 iz0 iz1 iz2 rfl (by decide) (.slice (some ⟨w3.heap.size + 1, 0, none⟩) 0 0) 0 [] (by rfl) (HLc.out.rowSAt 4 rfl) a rs.length cap (entCells rs) (by rfl) (entCells_length rs) (HP.out _ (HLc.out.still 0 rfl)).1.src (ents_one rs) (by simp only [maxLen]; omega) (by omega) ?_; intro a2 c2 w2 hown hgrow hat; simp only [Nat.zero_add, List.nil_append] at hown hat ⊢; have HL4 := Lib.hid (HLc.out.grownS 4 rfl hgrow hown hat); simp only [List.set_cons_succ, List.set_cons_zero] at HL4; obtain ⟨v0, _, hl2, _, _⟩ := HL4.out.c1 1 rfl; obtain ⟨x0, x1, x2, x3, x4, x5, x6, _, hl3, _, _⟩ := HL4.out.c7 2 rfl; obtain ⟨u0, uf, hl4, _, _⟩ := HL4.out.c1 3 rfl; clear hown hgrow hat)
        | (refine step_append_S _ (by rfl) (.tmp 18) (.tmp 20) 56 (by rfl) 42 i0 _ 7 72 Tryd.underlying56 hi0 iz0 iz1 iz2 rfl (by decide) (.slice a2 rs.length c2) rs.length (entCells rs) (by rfl) ((HL4.out.alloc _ _).rowSAt 4 rfl) (some ⟨w2.heap.size, 0, none⟩) 1 1 x.cells (by rfl) rfl (.inr ⟨_, rfl, ((HL4.out.alloc _ _).box 5 rfl).src⟩) (cells_one x) (by simp only [maxLen]; omega) (by omega) ?_; intro a3 c3 w3 hown hgrow hat; have HL5 := Lib.hid ((HL4.out.alloc _ _).grownS 4 rfl hgrow hown hat); simp only [List.set_cons_succ, List.set_cons_zero, List.cons_append, List.nil_append] at HL5; obtain ⟨v0, _, hl2, _, _⟩ := HL5.out.c1 1 rfl; obtain ⟨x0, x1, x2, x3, x4, x5, x6, _, hl3, _, _⟩ := HL5.out.c7 2 rfl; obtain ⟨u0, uf, hl4, _, _⟩ := HL5.out.c1 3 rfl; clear hown hgrow hat)
        | (refine step_append_S _ (by rfl) (.tmp 18) (.tmp 20) 56 (by rfl) 42 i0 _ 7 72 Tryd.underlying56 hi0 iz0 iz1 iz2 rfl (by decide) (.slice a2 rs.length c2) rs.length (entCells rs) (by rfl) (HL4.out.rowSAt 4 rfl) (some ⟨_, 0, none⟩) 1 1 x.cells (by rfl) rfl (.inr ⟨_, rfl, (HL4.out.box 5 rfl).src⟩) (cells_one x) (by simp only [maxLen]; omega) (by omega) ?_; intro a3 c3 w3 hown hgrow hat; have HL5 := Lib.hid (HL4.out.grownS 4 rfl hgrow hown hat); simp only [List.set_cons_succ, List.set_cons_zero, List.cons_append, List.nil_append] at HL5; obtain ⟨v0, _, hl2, _, _⟩ := HL5.out.c1 1 rfl; obtain ⟨x0, x1, x2, x3, x4, x5, x6, _, hl3, _, _⟩ := HL5.out.c7 2 rfl; obtain ⟨u0, uf, hl4, _, _⟩ := HL5.out.c1 3 rfl; clear hown hgrow hat))
      all_goals go_wp2
      all_goals have HLF := Lib.hid (HL5.out.set 3 rfl 0 (.slice a3 (rs.length + 1) c3))
      all_goals simp only [List.set_cons_succ, List.set_cons_zero, List.setIfInBounds_toArray] at HLF
      all_goals obtain ⟨s0, _⟩ := HLF.out.c1 3 rfl
      all_goals refine bodyPost_ret (v := .tuple #[.agg #[.slice a3 (rs.length + 1) c3], .int .i64 0]) (by simp [results, Tryd.results71, go_sem, s0]) rfl ?_
      all_goals refine ⟨0, a3, c3, rs ++ [x], (by simp), (by have := rowS_le (HLF.out.rowSAt 4 rfl); simpa using this), .inr (.inr ⟨rfl, HOK.out, by omega, rfl⟩), Grew.made (cap := c3) (n := rs.length + 1) (by simp) ?_⟩
      all_goals rw [entCells_append, show entCells [x] = x.cells from (by simp [entCells])]
      all_goals exact HLF.out.sel [0, 4] rfl (by decide)
end Go.Proofs.YtihmbgdkllmkaaaDoor

/-
  The reference of layer 13 (betrothalref13/ref.go): Pushes.
-/
namespace Go.Proofs.YtihmbgdkllmkaaaDoor
open Go.RowKit Go.Shelf
set_option maxRecDepth 100000
set_option linter.unusedVariables false
set_option linter.unusedSimpArgs false

theorem Led.rPush {T : List Nat} {w0 w : World} {l : List Thing} {P : World → Prop} (h : Led T w0 w l) (j : Nat) (hj : l[j]? = some (stillT P)) (a : Option Addr) (cap : Nat) (rs : List ME) (x : ME) (hcap : rs.length ≤ cap) (hP : ∀ W, P W → EntsAt W a rs ∧ x.v.In W) (hnx : x.v.nodes ≤ 1048576) (hlen : rs.length ≤ 4096) :
    Calls Tryd.prog 71 #[.agg #[.slice a rs.length cap], x.val] w fun e w' => ∃ (err : Int) (a' : Option Addr) (cap' : Nat) (rs' : List ME), e = .returned (.tuple #[.agg #[.slice a' rs'.length cap'], .int .i64 err]) ∧ rs'.length ≤ cap' ∧ ((err = 2 ∧ ¬ x.plain.Ok ∧ rs' = rs) ∨ (err = 6 ∧ x.plain.Ok ∧ rs.length = 4096 ∧ rs' = rs) ∨ (err = 0 ∧ x.plain.Ok ∧ rs.length < 4096 ∧ rs' = rs ++ [x])) ∧
      ∃ P' : World → Prop, (∀ W, P' W → P W ∧ EntsAt W a' rs') ∧ Led T w0 w' (l.set j (stillT P')) := by
  obtain ⟨T', h1, hb⟩ := h.frame1 j hj
  refine (Push_ref T' w P a cap rs x hcap h1 hP hnx hlen).mono ?_
  rintro e w' ⟨err, a', cap', rs', rfl, hcp, hc, P', hP', hL⟩
  exact ⟨err, a', cap', rs', rfl, hcp, hc, P', hP', hb _ _ [] hL⟩
/-- What the reference's Pushes tells. -/
def PushedRs (T : List Nat) (w : World) (P : World → Prop) (rs xs : List ME) (e : Ending) (w' : World) : Prop :=
  ∃ (k : Nat) (err : Int) (a' : Option Addr) (cap' : Nat), e = .returned (.tuple #[.agg #[.slice a' (rs ++ xs.take k).length cap'], .int .i64 err]) ∧ (rs ++ xs.take k).length ≤ cap' ∧ PushR rs.length (xs.map ME.plain) k err ∧ Grew T w P a' (rs ++ xs.take k) w'
theorem PushR.unique {n : Nat} {xs : List PE} {k k' : Nat} {err err' : Int} (h : PushR n xs k err) (h' : PushR n xs k' err') : k = k' ∧ err = err' := by
  obtain ⟨h1, h2, h3, h4⟩ := h
  obtain ⟨g1, g2, g3, g4⟩ := h'
  have hk : k = k' := by
    rcases h4 with ⟨_, rfl⟩ | ⟨hlt, h4⟩
    · rcases g4 with ⟨_, rfl⟩ | ⟨glt, ⟨_, g⟩ | ⟨_, _, g⟩⟩
      · rfl
      · exact absurd (h1 k' glt glt) g
      · omega
    · rcases g4 with ⟨_, rfl⟩ | ⟨glt, g4⟩
      · rcases h4 with ⟨_, g⟩ | ⟨_, _, g⟩
        · exact absurd (g1 k hlt hlt) g
        · omega
      · by_cases h5 : k < k'
        · rcases h4 with ⟨_, g⟩ | ⟨_, _, g⟩
          · exact absurd (g1 k hlt h5) g
          · omega
        · by_cases h6 : k' < k
          · rcases g4 with ⟨_, g⟩ | ⟨_, _, g⟩
            · exact absurd (h1 k' glt h6) g
            · omega
          · omega
  subst hk
  refine ⟨rfl, ?_⟩
  rcases h4 with ⟨rfl, h5⟩ | ⟨hlt, ⟨rfl, h5⟩ | ⟨rfl, h5, _⟩⟩ <;> rcases g4 with ⟨rfl, g5⟩ | ⟨glt, ⟨rfl, g5⟩ | ⟨rfl, g5, _⟩⟩ <;> first | rfl | omega | exact absurd h5 g5 | exact absurd g5 h5
end Go.Proofs.YtihmbgdkllmkaaaDoor

/-
  The reference of layer 13 (betrothalref13/ref.go): Drop.
-/
namespace Go.Proofs.YtihmbgdkllmkaaaDoor
open Go.RowKit Go.Shelf
set_option maxRecDepth 100000
set_option linter.unusedVariables false
set_option linter.unusedSimpArgs false

theorem add_addE (a : Addr) (i j : Nat) : (a.add i).add j = a.add (i + j) := by
  unfold Addr.add
  by_cases hi : i = 0 <;> by_cases hj : j = 0 <;> simp [hi, hj, Nat.add_assoc]
theorem EntsAt.src_from {w : World} {a sa : Option Addr} {rs : List ME} {lo k : Nat} (h : EntsAt w a rs) (hk : k = 7) (hs : rs.length = lo ∨ sa = a.map (·.add (lo * k))) : rs.length - lo = 0 ∨ ∃ ad, sa = some ad ∧ ∀ j u, ((entCells rs).drop (lo * 7))[j]? = some u → w.cell? (ad.add j) = some u := by
  subst hk
  rcases hs with hs | rfl
  · exact .inl (by omega)
  · rcases h.src with h0 | ⟨ad, rfl, hc⟩
    · exact .inl (by omega)
    · refine .inr ⟨ad.add (lo * 7), rfl, fun j u hu => ?_⟩
      rw [add_addE]
      rw [List.getElem?_drop] at hu
      exact hc _ _ hu
theorem EntsAt.src_to {w : World} {a : Option Addr} {rs : List ME} {k : Nat} (h : EntsAt w a rs) (hk : k ≤ rs.length) : k = 0 ∨ ∃ ad, a = some ad ∧ ∀ j u, ((entCells rs).take (k * 7))[j]? = some u → w.cell? (ad.add j) = some u := by
  rcases h.src with h0 | ⟨ad, rfl, hc⟩
  · exact .inl (by omega)
  · refine .inr ⟨ad, rfl, fun j u hu => hc j u ?_⟩
    rw [List.getElem?_take] at hu
    split at hu
    · exact hu
    · cases hu
/-- What the reference's Drop tells. -/
def DroppedR (T : List Nat) (w : World) (P : World → Prop) (rs : List ME) (i : Int) (e : Ending) (w' : World) : Prop :=
  ∃ (a' : Option Addr) (cap' : Nat) (rs' : List ME) (x : ME) (c : Bool), e = .returned (.tuple #[.agg #[.slice a' rs'.length cap'], x.val, .bool c]) ∧ rs'.length ≤ cap' ∧ AtRef rs i x c ∧ rs' = (if c = true then rs.eraseIdx i.toNat else rs) ∧ Grew T w P a' rs' w'
set_option maxHeartbeats 4000000 in
theorem Drop_ref (T : List Nat) (w : World) (P : World → Prop) (a : Option Addr) (cap : Nat) (rs : List ME) (i : Int) (hcap : rs.length ≤ cap) (h : Led T w w [stillT P]) (hP : ∀ W, P W → EntsAt W a rs) (hlen : rs.length ≤ 1048576) :
    Calls Tryd.prog 74 #[.agg #[.slice a rs.length cap], .int .i64 i] w (DroppedR T w P rs i) := by
  have HP := Lib.hid hP
  have HL0 := Lib.hid h
  have hbq := build_rq
  clear h hP
  go_enter Tryd.func74, Tryd.ntmps74
  go_wp2_with fail
  refine wp_calls_name ?_
  intro w1 hw1
  have HL1 := Lib.hid (HL0.out.al3 hw1)
  simp only [List.nil_append, List.cons_append] at HL1
  obtain ⟨b5, hb5⟩ : ∃ b, w.heap.size + 1 + 1 = b := ⟨_, rfl⟩
  rw [hb5] at HL1 ⊢
  obtain ⟨b4, hb4⟩ : ∃ b, w.heap.size + 1 = b := ⟨_, rfl⟩
  rw [hb4] at HL1 ⊢
  obtain ⟨b2, hb2⟩ : ∃ b, w.heap.size = b := ⟨_, rfl⟩
  rw [hb2] at HL1 ⊢
  clear hw1 hb5 hb4 hb2 HL0
  refine (At_ref w1 a cap rs i (HP.out _ (HL1.out.still 0 rfl))).mono ?_
  rintro e w2 ⟨x, cc, rfl, hR, ht⟩
  have HL2 := Lib.hid (HL1.out.touch ht)
  have HR := Lib.hid hR
  clear hR ht HL1
  simp only [ent_eq]
  obtain ⟨v0, _, hl2, _, _⟩ := HL2.out.c1 1 rfl
  go_upto_region 2 with fail
  refine wp_name ?_
  intro w3 hw3
  have HL3 := Lib.hid (HL2.out.al1 hw3)
  simp only [List.nil_append, List.cons_append] at HL3
  obtain ⟨b7, hb7⟩ : ∃ b, w2.heap.size = b := ⟨_, rfl⟩
  rw [hb7] at HL3 ⊢
  clear hw3 hb7 HL2 v0 hl2
  obtain ⟨v0, _, hl2, _, _⟩ := HL3.out.c1 1 rfl
  obtain ⟨u0, uf, hl4, _, _⟩ := HL3.out.c1 2 rfl
  obtain ⟨y0, y1, y2, y3, y4, y5, y6, ⟨fy0, fy1, fy2, fy3, fy4, fy5, fy6⟩, hl5, _, _⟩ := HL3.out.c7 3 rfl
  obtain ⟨x0, x1, x2, x3, x4, x5, x6, _, hl7, _, _⟩ := HL3.out.c7 4 rfl
  have n1 := HL3.out.ne 1 2 rfl rfl (by decide)
  have n2 := HL3.out.ne 1 3 rfl rfl (by decide)
  have n3 := HL3.out.ne 2 3 rfl rfl (by decide)
  have n4 := HL3.out.ne 2 4 rfl rfl (by decide)
  have n5 := HL3.out.ne 3 4 rfl rfl (by decide)
  have m1 := Ne.symm n1
  have m2 := Ne.symm n2
  have m3 := Ne.symm n3
  have m4 := Ne.symm n4
  have m5 := Ne.symm n5
  cases cc with
  | false =>
    go_wp2_with fail
    go_region_held3 (fun w' => w'.cell? ⟨b2, 0, none⟩ = some (.slice a rs.length cap) ∧ w'.cell? ⟨b7, 0, none⟩ = some (.int .i64 x.sync) ∧ w'.cell? ⟨b7, 1, none⟩ = some (.int .i64 x.thread) ∧ w'.cell? ⟨b7, 2, none⟩ = some (.int .i64 x.branch) ∧ w'.cell? ⟨b7, 3, none⟩ = some (.int .i64 x.flag) ∧ w'.cell? ⟨b7, 4, none⟩ = some (.int .i64 x.v.kind) ∧ w'.cell? ⟨b7, 5, none⟩ = some (.int .i64 x.v.num) ∧ w'.cell? ⟨b7, 6, none⟩ = some (.slice x.v.addr x.v.parts.length x.v.cap)) (go_keep) (fail)
    go_wp2
    have HF := Lib.hid (((HL3.out.set 2 rfl 0 (.slice a rs.length cap)).setEnt 3 rfl x.sync x.thread x.branch x.flag x.v.kind x.v.num (.slice x.v.addr x.v.parts.length x.v.cap)).drew)
    simp only [List.set_cons_succ, List.set_cons_zero, List.setIfInBounds_toArray] at HF
    obtain ⟨q0, _⟩ := HF.out.c1 2 rfl
    obtain ⟨s0, s1, s2, s3, s4, s5, s6, _⟩ := HF.out.c7 3 rfl
    refine bodyPost_ret (v := .tuple #[.agg #[.slice a rs.length cap], x.val, .bool false]) (by simp [results, Tryd.results74, go_sem, q0, s0, s1, s2, s3, s4, s5, s6, ent_eq]) rfl ?_
    exact ⟨a, cap, rs, x, false, rfl, hcap, HR.out, by simp, Grew.same HF.out HP.out⟩
  | true =>
    obtain ⟨hi0, hxi⟩ : 0 ≤ i ∧ rs[i.toNat]? = some x := by
      rcases HR.out with ⟨_, h1, h2⟩ | ⟨h, _⟩
      · exact ⟨h1, h2⟩
      · cases h
    obtain ⟨k, rfl⟩ := Int.eq_ofNat_of_zero_le hi0
    have hk : k < rs.length := (List.getElem?_eq_some_iff.1 hxi).1
    obtain ⟨i0, hi0', iz0, iz1, iz2⟩ := info_parts info_ent
    obtain ⟨sa, hsa, hsl2⟩ := run_slice_from Tryd.underlying56 hi0' a rs.length cap (k + 1) (by omega) hcap
    have hsl1 := fun W => run_slice_to Tryd.underlying56 hi0' a rs.length cap k (by omega) W
    have HSA := Lib.hid hsa
    clear hsa hxi hi0
    rw [show (((k + 1 : Nat)) : Int) = (k : Int) + 1 by omega] at hsl2
    have hwk : IntKind.i64.wrap ((k : Int) + 1) = (k : Int) + 1 := IntWalk.i64_in _ (by omega)
    have HLE := Lib.hid (HL3.out.empty 42 7).drew
    simp only [List.nil_append, List.cons_append] at HLE
    have HTL : Hid (((entCells rs).take (k * 7)).length = k * 7) := by unfold Hid; rw [List.length_take, entCells_length]; omega
    have HLN : Hid (((entCells rs).drop ((k + 1) * 7)).length = (rs.length - (k + 1)) * 7) := by
      unfold Hid
      rw [List.length_drop, entCells_length, Nat.sub_mul]
    go_wp2_with fail
    go_region_held3 (fun w' => w'.cell? ⟨b2, 0, none⟩ = some (.slice a rs.length cap) ∧ w'.cell? ⟨b7, 0, none⟩ = some (.int .i64 x.sync) ∧ w'.cell? ⟨b7, 1, none⟩ = some (.int .i64 x.thread) ∧ w'.cell? ⟨b7, 2, none⟩ = some (.int .i64 x.branch) ∧ w'.cell? ⟨b7, 3, none⟩ = some (.int .i64 x.flag) ∧ w'.cell? ⟨b7, 4, none⟩ = some (.int .i64 x.v.kind) ∧ w'.cell? ⟨b7, 5, none⟩ = some (.int .i64 x.v.num) ∧ w'.cell? ⟨b7, 6, none⟩ = some (.slice x.v.addr x.v.parts.length x.v.cap)) (go_keep) (first
      | (refine step_append_S _ (by rfl) (.tmp 19) (.tmp 23) 56 (by rfl) 42 i0 _ 7 72 Tryd.underlying56 hi0' iz0 iz1 iz2 rfl (by decide) (.slice (some ⟨w3.heap.size, 0, none⟩) 0 0) 0 [] (by rfl) (HLE.out.rowSAt 5 rfl) a k cap ((entCells rs).take (k * 7)) (by rfl) HTL.out ((HP.out _ (HLE.out.still 0 rfl)).src_to (by omega)) (fun u hu => ents_one rs u (List.mem_of_mem_take hu)) (by simp only [maxLen]; omega) (by omega) ?_; intro a8 c8 w8 hown hgrow hat; simp only [Nat.zero_add, List.nil_append] at hown hat ⊢; have HL8 := Lib.hid (HLE.out.grownS 5 rfl hgrow hown hat); simp only [List.set_cons_succ, List.set_cons_zero] at HL8; clear hown hgrow hat v0 hl2 u0 uf hl4 y0 y1 y2 y3 y4 y5 y6 fy0 fy1 fy2 fy3 fy4 fy5 fy6 hl5 x0 x1 x2 x3 x4 x5 x6 hl7; obtain ⟨v0, _, hl2, _, _⟩ := HL8.out.c1 1 rfl; obtain ⟨u0, uf, hl4, _, _⟩ := HL8.out.c1 2 rfl; obtain ⟨y0, y1, y2, y3, y4, y5, y6, ⟨fy0, fy1, fy2, fy3, fy4, fy5, fy6⟩, hl5, _, _⟩ := HL8.out.c7 3 rfl; obtain ⟨x0, x1, x2, x3, x4, x5, x6, _, hl7, _, _⟩ := HL8.out.c7 4 rfl)
      | (refine step_append_S _ (by rfl) (.tmp 24) (.tmp 29) 56 (by rfl) 42 i0 _ 7 72 Tryd.underlying56 hi0' iz0 iz1 iz2 rfl (by decide) (.slice a8 k c8) k ((entCells rs).take (k * 7)) (by rfl) (HL8.out.rowSAt 5 rfl) sa (rs.length - (k + 1)) (cap - (k + 1)) ((entCells rs).drop ((k + 1) * 7)) (by rfl) HLN.out ((HP.out _ (HL8.out.still 0 rfl)).src_from iz1 HSA.out) (fun u hu => ents_one rs u (List.mem_of_mem_drop hu)) (by simp only [maxLen]; omega) (by omega) ?_; intro a9 c9 w9 hown hgrow hat; have HL9 := Lib.hid (HL8.out.grownS 5 rfl hgrow hown hat); simp only [List.set_cons_succ, List.set_cons_zero] at HL9; clear hown hgrow hat v0 hl2 u0 uf hl4 y0 y1 y2 y3 y4 y5 y6 fy0 fy1 fy2 fy3 fy4 fy5 fy6 hl5 x0 x1 x2 x3 x4 x5 x6 hl7; obtain ⟨v0, _, hl2, _, _⟩ := HL9.out.c1 1 rfl; obtain ⟨u0, uf, hl4, _, _⟩ := HL9.out.c1 2 rfl; obtain ⟨y0, y1, y2, y3, y4, y5, y6, ⟨fy0, fy1, fy2, fy3, fy4, fy5, fy6⟩, hl5, _, _⟩ := HL9.out.c7 3 rfl; obtain ⟨x0, x1, x2, x3, x4, x5, x6, _, hl7, _, _⟩ := HL9.out.c7 4 rfl))
    have hel : k + (rs.length - (k + 1)) = (rs.eraseIdx k).length := by rw [List.length_eraseIdx_of_lt hk]; omega
    have hec : (entCells rs).take (k * 7) ++ (entCells rs).drop ((k + 1) * 7) = entCells (rs.eraseIdx k) := by rw [List.eraseIdx_eq_take_drop_succ, entCells_append, entCells_take, entCells_drop]
    go_wp2
    have HF := Lib.hid (((HL9.out.set 2 rfl 0 (.slice a9 (k + (rs.length - (k + 1))) c9)).setEnt 3 rfl x.sync x.thread x.branch x.flag x.v.kind x.v.num (.slice x.v.addr x.v.parts.length x.v.cap)))
    simp only [List.set_cons_succ, List.set_cons_zero, List.setIfInBounds_toArray] at HF
    obtain ⟨q0, _⟩ := HF.out.c1 2 rfl
    obtain ⟨s0, s1, s2, s3, s4, s5, s6, _⟩ := HF.out.c7 3 rfl
    refine bodyPost_ret (v := .tuple #[.agg #[.slice a9 (k + (rs.length - (k + 1))) c9], x.val, .bool true]) (by simp [results, Tryd.results74, go_sem, q0, s0, s1, s2, s3, s4, s5, s6, ent_eq]) rfl ?_
    refine ⟨a9, c9, rs.eraseIdx k, x, true, by rw [hel], ?_, HR.out, by simp, Grew.made (cap := c9) hel.symm ?_⟩
    · have := rowS_le (HF.out.rowSAt 5 rfl)
      rwa [hel] at this
    · rw [← hec]
      exact HF.out.sel [0, 5] rfl (by decide)
end Go.Proofs.YtihmbgdkllmkaaaDoor

/-
  The reference of layer 13 (betrothalref13/ref.go): Purge.
-/
namespace Go.Proofs.YtihmbgdkllmkaaaDoor
open Go.RowKit Go.Shelf
set_option maxRecDepth 100000
set_option linter.unusedVariables false
set_option linter.unusedSimpArgs false

/-- What the reference's Purge tells. -/
def PurgedR (T : List Nat) (w : World) (P : World → Prop) (rs : List ME) (zs : List Int) (e : Ending) (w' : World) : Prop :=
  ∃ (a' : Option Addr) (cap' : Nat) (rs' : List ME), rs' = rs.filter (fun e => !decide (e.sync ∈ zs)) ∧ e = .returned (.tuple #[.agg #[.slice a' rs'.length cap'], .int .i64 ((rs.length : Int) - (rs'.length : Int))]) ∧ rs'.length ≤ cap' ∧ Grew T w P a' rs' w'
end Go.Proofs.YtihmbgdkllmkaaaDoor

/-
  act() of law 13 (betrothallaw13/law.go): one call by both.
-/
namespace Go.Proofs.YtihmbgdkllmkaaaDoor
open Go.RowKit Go.Shelf
set_option maxRecDepth 100000
set_option linter.unusedVariables false
set_option linter.unusedSimpArgs false

/-- A call of law 13. -/
structure CB where
  what : Int
  n : Int
  m : Int
  a : Option Addr
  cap : Nat
  l : List ME
def CB.val (x : CB) : Value := .agg #[.int .i64 x.what, .int .i64 x.n, .int .i64 x.m, .slice x.a x.l.length x.cap]
theorem cb_eq (x : CB) : x.val = .agg #[.int .i64 x.what, .int .i64 x.n, .int .i64 x.m, .slice x.a x.l.length x.cap] := rfl
/-- What a call holds, in memory. -/
def CB.In (x : CB) (W : World) : Prop := EntsAt W x.a x.l ∧ ∀ e ∈ x.l, e.v.In W
/-- At most six entries, of values of at most 256 parts. -/
def CB.Few (x : CB) : Prop := x.l.length ≤ 6 ∧ ∀ e ∈ x.l, e.v.nodes ≤ 256
/-- The queue's entries es and the reference's rs. -/
def Both13 (P : World → Prop) (es rs : List ME) (a : Option Addr) (cap : Nat) : Prop :=
  es.map ME.plain = rs.map ME.plain ∧ rs.length ≤ cap ∧ es.length ≤ 4096 ∧ (∀ e ∈ es, e.v.nodes ≤ 256) ∧ ∀ W, P W → (∀ e ∈ es, e.v.In W) ∧ EntsAt W a rs ∧ ∀ r ∈ rs, r.v.In W
theorem Both13.len {P : World → Prop} {es rs : List ME} {a : Option Addr} {cap : Nat} (h : Both13 P es rs a cap) : es.length = rs.length := by have := congrArg List.length h.1; simpa using this
theorem Both13.rnodes {P : World → Prop} {es rs : List ME} {a : Option Addr} {cap : Nat} (h : Both13 P es rs a cap) : ∀ r ∈ rs, r.v.nodes ≤ 256 := fun r hr => by
  have hm : r.plain ∈ es.map ME.plain := by rw [h.1]; exact List.mem_map_of_mem hr
  obtain ⟨e, he, hp⟩ := List.mem_map.1 hm
  have := h.2.2.2.1 e he
  rw [← MT.plain_nodes] at this ⊢
  have h2 : e.v.plain = r.v.plain := congrArg PE.v hp
  rw [← h2]; exact this
/-- What act tells. -/
def Acted13 (T : List Nat) (w : World) (P : World → Prop) (e : Ending) (w' : World) : Prop :=
  ∃ (g : Nat) (es rs : List ME) (a : Option Addr) (cap : Nat) (P' : World → Prop), e = .returned (.tuple #[.pointer (some ⟨g, 0, none⟩), .agg #[.slice a rs.length cap], .bool true]) ∧ Both13 P' es rs a cap ∧ (∀ W, P' W → P W) ∧ Led T w w' [queueT g es, stillT P']
theorem Led.rDrop {T : List Nat} {w0 w : World} {l : List Thing} {P : World → Prop} (h : Led T w0 w l) (j : Nat) (hj : l[j]? = some (stillT P)) (a : Option Addr) (cap : Nat) (rs : List ME) (i : Int) (hcap : rs.length ≤ cap) (hP : ∀ W, P W → EntsAt W a rs) (hlen : rs.length ≤ 1048576) :
    Calls Tryd.prog 74 #[.agg #[.slice a rs.length cap], .int .i64 i] w fun e w' => ∃ (a' : Option Addr) (cap' : Nat) (rs' : List ME) (x : ME) (c : Bool), e = .returned (.tuple #[.agg #[.slice a' rs'.length cap'], x.val, .bool c]) ∧ rs'.length ≤ cap' ∧ AtRef rs i x c ∧ rs' = (if c = true then rs.eraseIdx i.toNat else rs) ∧ ∃ P' : World → Prop, (∀ W, P' W → P W ∧ EntsAt W a' rs') ∧ Led T w0 w' (l.set j (stillT P')) := by
  obtain ⟨T', h1, hb⟩ := h.frame1 j hj
  refine (Drop_ref T' w P a cap rs i hcap h1 hP hlen).mono ?_
  rintro e w' ⟨a', cap', rs', x, c, rfl, hc, hR, hrs, P', hP', hL⟩
  exact ⟨a', cap', rs', x, c, rfl, hc, hR, hrs, P', hP', hb _ _ [] hL⟩
end Go.Proofs.YtihmbgdkllmkaaaDoor

/-
  A quiet region (it draws its order; its operations only read) inside a round of a range over a function: what the plain fence proves of it serves the round, if no operation is a defer statement.
-/
namespace Go.Proofs.YtihmbgdkllmkaaaDoor

def noDefer (ops : Array Oper) : Bool := ops.all fun o => match o.op with | .defer _ => false | _ => true
theorem noDefer_spec {ops : Array Oper} (h : noDefer ops = true) {i : Nat} {o : Oper} (hi : ops[i]? = some o) : ∀ c, o.op ≠ .defer c := by
  intro c hc
  have h1 := Array.all_eq_true.1 h i (Array.getElem?_eq_some_iff.1 hi).1
  rw [(Array.getElem?_eq_some_iff.1 hi).2, hc] at h1
  cases h1

section
variable {F : Fence} {n : Nat} {P : Program} {ops : Array Oper} {Q : Exit → Act → World → Prop} {l : Nat}
theorem uponIn_round_eq {o : Oper} {a : Act} {next : Act → World → Prop} (r : Result Next) (h : o.uponIn F n P a next Q r) : o.uponIn (F.inRound l) n P a next Q r := by
  cases r with
  | ok x w' => cases x <;> exact h
  | halt x w' => cases x <;> exact h
theorem wpOpIn_round (hro : F.round = none) (hd : noDefer ops = true) {i : Nat} {K K' : Act → World → Prop} (hK : ∀ a w, K a w → K' a w) {a : Act} {w : World} (h : wpOpIn F n P ops Q i K a w) : wpOpIn (F.inRound l) n P ops Q i K' a w := by
  refine wpOpIn_mono hK ?_
  unfold wpOpIn at h ⊢
  cases ho : ops[i]? with
  | none => rw [ho] at h; exact h
  | some o =>
    rw [ho] at h
    simp only at h ⊢
    split
    · rename_i hw
      rw [if_pos hw] at h
      unfold Oper.wpIn at h ⊢
      refine ⟨h.1, ?_⟩
      have h2 := h.2
      rw [hro, Oper.semAt_none] at h2
      rw [Fence.inRound_round, Oper.semAt_some _ _ _ (noDefer_spec hd ho)]
      exact uponIn_round_eq _ h2
    · rename_i hw
      rw [if_neg hw] at h
      exact h
theorem wpAnyIn_round {md : Region.Mode} (hro : F.round = none) (hd : noDefer ops = true) : ∀ (fuel : Nat) (listed : Array Bool) (a : Act) (w : World), wpAnyIn F n P md ops Q fuel listed a w → wpAnyIn (F.inRound l) n P md ops Q fuel listed a w
  | 0, _, _, _, h => h
  | fuel + 1, _, _, _, h => ⟨h.1, fun i hi => wpOpIn_round hro hd (fun a w h => wpAnyIn_round hro hd fuel _ a w h) (h.2 i hi)⟩
/-- The law: as the kit's of the plain fence. -/
theorem quiet_round {id : Nat} {a : Act} {w : World} {L : List Oper} (hro : F.round = none) (hm : P.follows .mixedOrders = true) (hB : Region.lexB .any L.toArray = true) (hd : noDefer L.toArray = true)
    (h : wpQuietIn F n P L.toArray (fun w' => ∃ n, w' = w.drewN n) (fun a' => ∀ w', (∃ n, w' = w.drewN n) → Q .normal a' w') L a) : (Code.region id L.toArray true).wpIn (F.inRound l) n P Q a w := by
  simp only [Region.lexB, Bool.and_eq_true] at hB
  refine wpIn_region_any hm (wpAnyIn_round hro hd _ _ _ _ (wpAnyIn_of_quiet (Q := fun a' => ∀ w', (∃ n, w' = w.drewN n) → Q .normal a' w') hro (fun _ w' hw' h => h w' hw') _ _ _ _ ⟨1, rfl⟩ ?_))
  have := wpAnyQIn_lex (F := F) (n := n) (C := fun w' => ∃ n, w' = w.drewN n) (md := .any) hB.1 L 0 (Array.replicate L.toArray.size false) a (by simp) (by simpa using hB.2) h
  simpa using this
end
end Go.Proofs.YtihmbgdkllmkaaaDoor

/-
  A region that draws its order and holds loads beside calls, inside a round of a range over a function: what the plain walk of all orders ('wpAnyH') proves serves the round.
-/
namespace Go.Proofs.YtihmbgdkllmkaaaDoor

section
variable {n : Nat} {P : Program} {ops : Array Oper} {Q : Exit → Act → World → Prop} {l : Nat} {S : World → Prop}
theorem wpOpIn_of_wpOp (hno : ¬ LetsOut Q) {i : Nat} {K : Act → World → Prop} {a : Act} {w : World} (h : wpOp P ops Q i K a w) : wpOpIn Fence.wide n P ops Q i K a w := by
  unfold wpOp at h
  unfold wpOpIn
  cases ho : ops[i]? with
  | none => rw [ho] at h; exact h
  | some o =>
    rw [ho] at h
    simp only at h ⊢
    split
    · rename_i hw
      rw [if_pos hw] at h
      rcases h with h | ⟨_, h⟩
      · unfold Oper.wp at h
        unfold Oper.wpIn
        refine ⟨fun _ _ => trivial, ?_⟩
        rw [show Fence.wide.round = none from rfl, Oper.semAt_none]
        generalize (execOp a.eval o).run P w = r at *
        cases r with
        | ok x w' =>
          cases x with
          | enter f args => exact ⟨fun h => by simp [Fence.wide] at h, callsIn_wide.2 h⟩
          | row row args => exact ⟨fun h => by simp [Fence.wide] at h, fun c cs _ => let ⟨v, w2, r, s⟩ := h c cs; ⟨v, w2, r, stepsIn_wide.2 s⟩⟩
          | round _ _ _ _ _ => exact False.elim h
          | _ => exact h
        | halt x w' => cases x <;> exact h
      · exact absurd h hno
    · rename_i hw
      rw [if_neg hw] at h
      exact ⟨fun _ _ => trivial, h⟩
theorem wpAnyIn_of_wpAny {md : Region.Mode} (hno : ¬ LetsOut Q) : ∀ (fuel : Nat) (listed : Array Bool) (a : Act) (w : World), wpAny P md ops Q fuel listed a w → wpAnyIn Fence.wide n P md ops Q fuel listed a w
  | 0, _, _, _, h => h
  | fuel + 1, _, _, _, h => ⟨h.1, fun i hi => wpOpIn_mono (fun a w h => wpAnyIn_of_wpAny hno fuel _ a w h) (wpOpIn_of_wpOp hno (h.2 i hi))⟩
/-- The beginning of such a walk. -/
theorem region_held_round {id : Nat} {a : Act} {w : World} (hno : ¬ LetsOut Q) (hd : noDefer ops = true) (hm : P.follows .mixedOrders = true) (hS : S w.drew)
    (h : S w.drew → wpAnyH P .any ops Q S ops.size (Array.replicate ops.size false) a w.drew) : (Code.region id ops true).wpIn (Fence.wide.inRound l) n P Q a w :=
  wpIn_region_any hm (wpAnyIn_round rfl hd _ _ _ _ (wpAnyIn_of_wpAny hno _ _ _ _ (wpAny_of_held _ _ _ _ (h hS))))
end
end Go.Proofs.YtihmbgdkllmkaaaDoor
