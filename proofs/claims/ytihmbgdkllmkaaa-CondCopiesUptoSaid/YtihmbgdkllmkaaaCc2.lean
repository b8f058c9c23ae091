/-
  Texts 2 of 5 that CondCopies rests on, laid together by program: Q2, Q3, Q4, LedJ, Still, R13, Q5, RangeC, Q6, Set, Q7, QC, R13b, R13d, R13c, R15, Ar, Note, Acc, Cell, Zeros, Alloc, AppendIn, AppendAny.
-/
import Derived.Test.YtihmbgdkllmkaaaCc1
import Derived.Deep.Cut
import Derived.LoopIn
import Derived.MapKept
import Derived.Deep.RegionHeld3
import Derived.Test.YtihmbgdkllmkaaaProg
import Derived.WalkKit
import Derived.WalkLawsBesides
import Derived.WalkSpells
import Derived.RegionTactic
import Derived.BigRegion
import Derived.Deep.RegionLaw
import Derived.Lib.Hide
import Derived.RangeFuncLeaves
import Derived.Shelf.Abstract
import Derived.Deep.QuietTactic
import Derived.BigQuiet
import Derived.Outline
import Derived.Lib.AppendZerosOnto
import Derived.OwnWalkIn
import Derived.Deep.AppendLies
/-
  Layer 13: New, Push (queue.go).
-/
namespace Go.Proofs.Ytihmbgdkllmkaaa
open Go.RowKit Go.Shelf
set_option maxRecDepth 100000
set_option linter.unusedVariables false
set_option linter.unusedSimpArgs false

theorem info_ent : (Try.prog.info? 27).map (fun i => (i.zero, i.size, i.bytes)) = some (some (.agg #[.int .i64 0, .int .i64 0, .int .i64 0, .int .i64 0, .int .i64 0, .int .i64 0, .slice none 0 0]), 7, 72) := by kernel_rfl
theorem build_list (w : World) : (Instr.build 65 #[(0, .bool true)]).run Try.prog w = .ok (.agg #[.bool true, .slice none 0 0]) w := run_build w 65 _ _ (by kernel_rfl)
theorem build_queue (a b : Value) (w : World) (h : Try.prog.built 67 [(0, .agg #[a, b])] = some #[a, b]) : (Instr.build 67 #[(0, .agg #[a, b])]).run Try.prog w = .ok (.agg #[a, b]) w := run_build w 67 _ _ h
set_option maxHeartbeats 1000000 in
theorem New_q {T : List Nat} {w0 : World} {l : List Thing} (w : World) (h : Led T w0 w l) : Calls Try.prog 13 #[] w fun e w' => ∃ g, e = .returned (.pointer (some ⟨g, 0, none⟩)) ∧ Led T w0 w' (l ++ [queueT g []]) := by
  have hb1 := build_list
  have hb2 : ∀ W, (Instr.build 67 #[(0, .agg #[.bool true, .slice none 0 0])]).run Try.prog W = .ok (.agg #[.bool true, .slice none 0 0]) W := fun W => build_queue _ _ W (by kernel_rfl)
  have H := Lib.hid h
  clear h
  go_enter Try.func13, Try.ntmps13
  go_wp2
  go_ret
  refine ⟨w.heap.size, rfl, ?_⟩
  have h := (H.out.alloc 67 #[.bool true, .slice none 0 0]).rowSnil 27 7
  rw [List.append_assoc] at h
  exact Led.shutQ (es := []) h

/-- What Push of xs onto n entries takes: the first k; an error. -/
def PushR (n : Nat) (xs : List PE) (k : Nat) (err : Int) : Prop :=
  (∀ i (h : i < xs.length), i < k → xs[i].Ok) ∧ n + k ≤ 4096 ∧ k ≤ xs.length ∧ ((err = 0 ∧ k = xs.length) ∨ ∃ h : k < xs.length, (err = 2 ∧ ¬ xs[k].Ok) ∨ (err = 6 ∧ xs[k].Ok ∧ n + k = 4096))
def Pushed (T : List Nat) (w : World) (g : Nat) (es xs : List ME) (e : Ending) (w' : World) : Prop :=
  ∃ k err ys, e = .returned (.int .i64 err) ∧ PushR es.length (xs.map ME.plain) k err ∧ ys.map ME.plain = (xs.map ME.plain).take k ∧ Led T w w' [queueT g (es ++ ys), valsT (ys.map ME.v)]
/-- The frame of one thing: what is beside it is kept. -/
theorem Led.frameK {T : List Nat} {w0 w : World} {l : List Thing} {t : Thing} (h : Led T w0 w l) (i : Nat) (hi : l[i]? = some t) :
    ∃ T', Led T' w w [t] ∧ (∀ k ∈ T', k ∈ T ∨ w0.heap.size ≤ k) ∧ (∀ W, Touch T' w W → ∀ j u, j ≠ i → l[j]? = some u → ∃ f, u.holds W f) ∧ ∀ w' t' rest, Led T' w w' (t' :: rest) → Led T w0 w' (l.set i t' ++ rest) := by
  have hz := h.size
  obtain ⟨hb, F, h1, h2⟩ := h
  have hi' := (List.getElem?_eq_some_iff.1 hi).1
  obtain ⟨ha1, ha2⟩ := h1 i t hi
  have hL : Led T w0 w l := ⟨hb, F, h1, h2⟩
  refine ⟨F i, ⟨Touch.refl _ _, fun _ => F i, ?_, ?_⟩, ha2, ?_, ?_⟩
  · intro j u hj
    cases j with
    | zero => simp at hj; subst hj; exact ⟨ha1, fun k hk => .inl hk⟩
    | succ j => simp at hj
  · intro j k hj hk hjk; simp at hj hk; omega
  · intro W hW j u hji hj
    obtain ⟨hu, _⟩ := h1 j u hj
    have hj' := (List.getElem?_eq_some_iff.1 hj).1
    exact ⟨F j, u.keep hu (fun k hk => hW.block k (u.lt hu k hk) (h2 j i hj' hi' hji k hk))⟩
  · rintro w' t' rest ⟨hT, F', h1', h2'⟩
    have hnewF : ∀ m, m < (t' :: rest).length → ∀ x ∈ F' m, x ∈ F i ∨ w.heap.size ≤ x := fun m hm x hx => (h1' m _ (List.getElem?_eq_getElem hm)).2 x hx
    have hoth : ∀ m, m < l.length → m ≠ i → ∀ x ∈ F m, ∀ p, p < (t' :: rest).length → x ∉ F' p := fun m hm hmi x hx p hp hc => by
      have hlt := l[m].lt (h1 m l[m] (List.getElem?_eq_getElem hm)).1 x hx
      rcases hnewF p hp x hc with h | h
      · exact h2 m i hm hi' hmi x hx h
      · omega
    refine ⟨hb.trans hT ha2, fun m => if m = i then F' 0 else if m < l.length then F m else F' (m - l.length + 1), ?_, ?_⟩
    · intro m u hm
      by_cases hml : m < l.length
      · rw [List.getElem?_append_left (by simpa using hml)] at hm
        by_cases hmi : m = i
        · subst hmi
          rw [List.getElem?_set_self hi'] at hm
          cases hm
          simp only [if_true]
          obtain ⟨a, b⟩ := h1' 0 t' rfl
          exact ⟨a, fun k hk => (b k hk).elim (ha2 k) (fun h => .inr (by omega))⟩
        · rw [List.getElem?_set_ne (fun e => hmi e.symm)] at hm
          simp only [if_neg hmi, if_pos hml]
          obtain ⟨hu, hu2⟩ := h1 m u hm
          exact ⟨u.keep hu (fun k hk => hT.block k (u.lt hu k hk) (h2 m i hml hi' hmi k hk)), hu2⟩
      · rw [List.getElem?_append_right (by simpa using hml)] at hm
        have hmi : m ≠ i := by omega
        simp only [if_neg hmi, if_neg hml]
        obtain ⟨a, b⟩ := h1' (m - l.length + 1) u (by simpa using hm)
        exact ⟨a, fun k hk => (b k hk).elim (ha2 k) (fun h => .inr (by omega))⟩
    · intro m n hm hn hmn x hx hx2
      dsimp only at hx hx2
      simp only [List.length_append, List.length_set] at hm hn
      by_cases hmi : m = i
      · rw [if_pos hmi] at hx
        rw [if_neg (by omega)] at hx2
        by_cases hnl : n < l.length
        · rw [if_pos hnl] at hx2
          exact hoth n hnl (by omega) x hx2 0 (by simp) hx
        · rw [if_neg hnl] at hx2
          exact h2' 0 (n - l.length + 1) (by simp) (by simp; omega) (by omega) x hx hx2
      · rw [if_neg hmi] at hx
        by_cases hni : n = i
        · rw [if_pos hni] at hx2
          by_cases hml : m < l.length
          · rw [if_pos hml] at hx
            exact hoth m hml hmi x hx 0 (by simp) hx2
          · rw [if_neg hml] at hx
            exact h2' 0 (m - l.length + 1) (by simp) (by simp; omega) (by omega) x hx2 hx
        · rw [if_neg hni] at hx2
          by_cases hml : m < l.length
          · rw [if_pos hml] at hx
            by_cases hnl : n < l.length
            · rw [if_pos hnl] at hx2; exact h2 m n hml hnl hmn x hx hx2
            · rw [if_neg hnl] at hx2; exact hoth m hml hmi x hx (n - l.length + 1) (by simp; omega) hx2
          · rw [if_neg hml] at hx
            by_cases hnl : n < l.length
            · rw [if_pos hnl] at hx2; exact hoth n hnl hni x hx2 (m - l.length + 1) (by simp; omega) hx
            · rw [if_neg hnl] at hx2; exact h2' (m - l.length + 1) (n - l.length + 1) (by simp; omega) (by simp; omega) (by omega) x hx hx2

theorem Led.shutP {T : List Nat} {w0 w : World} {g n : Nat} {v : Value} {L : List ME} {vs : List MT} {rest : List Thing} (hn : L.length = n) (h : Led T w0 w (Proofs.Ytihmbgdkllmkaaa.box g 67 #[.bool true, v] :: rowT 27 7 v n (entCells L) :: valsT vs :: rest)) : Led T w0 w [queueT g L, valsT vs] := by
  subst hn
  have h1 : Led T w0 w ([valsT vs] ++ [Proofs.Ytihmbgdkllmkaaa.box g 67 #[.bool true, v], rowT 27 7 v L.length (entCells L)]) := h.sel [2, 0, 1] rfl (by decide)
  exact h1.shutQ.sel [1, 0] rfl (by decide)
set_option maxHeartbeats 4000000 in
theorem Push_q (T : List Nat) (w : World) (g : Nat) (es xs : List ME) (a : Option Addr) (cap : Nat) (h : Led T w w [queueT g es]) (hsrc : ∀ W, Touch T w W → EntsAt W a xs ∧ ∀ x ∈ xs, x.v.In W) (hn : xs.length ≤ 1099511627776) (hes : es.length ≤ 4096) :
    Calls Try.prog 14 #[.pointer (some ⟨g, 0, none⟩), .slice a xs.length cap] w (Pushed T w g es xs) := by
  obtain ⟨qa, qc, hqc1, hqc2, h1⟩ := Led.openQ (l := []) h
  have HL1 := Lib.hid h1.vals0
  simp only [List.nil_append, List.cons_append] at HL1
  have HSRC := Lib.hid hsrc
  clear h h1 hsrc hqc1 hqc2
  obtain ⟨q0, q1, _, _, zq, _, _⟩ := HL1.out.c2 0 rfl
  go_enter Try.func14, Try.ntmps14
  go_wp2
  refine wp_scope_fwd 0 rfl ?_
  go_wp2_with fail
  refine (none_no g w q0).mono ?_
  rintro e w' ⟨rfl, rfl⟩
  go_wp2_with fail
  go_loopw [5, 12] (fun er i wr => ∃ (j : Nat) (ys : List ME) (qa : Option Addr) (qc : Nat), j ≤ xs.length ∧ i = .int .i64 (j : Int) ∧ er = .int .i64 0 ∧ es.length + j ≤ 4096 ∧ (es ++ ys).length = es.length + j ∧ Hid (ys.map ME.plain = (xs.map ME.plain).take j) ∧ Hid (∀ i (h : i < (xs.map ME.plain).length), i < j → (xs.map ME.plain)[i].Ok) ∧
    Hid (Led T w wr [box g 67 #[.bool true, .slice qa (es.length + j) qc], rowT 27 7 (.slice qa (es.length + j) qc) (es.length + j) (entCells (es ++ ys)), valsT (ys.map ME.v)])) (fun _ i _ => xs.length - (intOf i).toNat)
  case atStart => exact ⟨0, [], qa, qc, Nat.zero_le _, rfl, rfl, by omega, by simp, by unfold Hid; simp, by unfold Hid; intro i _ h; omega, by simpa using HL1⟩
  case round =>
    obtain ⟨j, ys, qa, qc, hj, rfl, rfl, hj2, hyl, HY, HO, HK⟩ := hrel
    clear HL1 q0 q1 zq
    have hj0 : (0 : Int) ≤ (j : Int) := by omega
    by_cases hjl : j < xs.length
    · have hjl' : (j : Int) < (xs.length : Int) := by omega
      obtain ⟨b, o, rfl, hb, p0, p1, p2, p3, p4, p5, p6⟩ := (HSRC.out wr HK.out.tch).1 j hjl
      have HI := Lib.hid ((HSRC.out wr HK.out.tch).2 _ (List.getElem_mem hjl))
      have HXJ : Hid ((xs.map ME.plain)[j]? = some xs[j].plain) := by unfold Hid; simp [hjl]
      generalize xs[j] = x at p0 p1 p2 p3 p4 p5 p6 HI HXJ
      go_wp2_with fail
      refine wp_calls_name ?_
      intro w2 hw2
      have HL2 := Lib.hid (HK.out.al1 hw2)
      have HT2 : Hid (Touch [] wr w2) := hw2 ▸ (Touch.refl [] wr).alloc _
      simp only [List.nil_append, List.cons_append] at HL2
      obtain ⟨b7, hb7⟩ : ∃ b, wr.heap.size = b := ⟨_, rfl⟩
      rw [hb7] at HL2 ⊢
      clear hw2 hb7 p0 p1 p2 p3 p4 p5 p6 hb
      refine (valid_q x w2 (HI.out.touch0 HT2.out)).mono ?_
      rintro e w3 ⟨cc, rfl, hcc, ht⟩
      have HL3 := Lib.hid (HL2.out.touch ht)
      have HT3 := Lib.hid (HT2.out.trans' ht)
      have HCC := Lib.hid hcc
      clear hcc ht HL2 HT2
      cases cc with
      | false =>
        go_wp2
        go_step3
        refine ⟨rfl, ?_⟩
        go_wp2
        refine noGoto_ret' ?_
        go_ret
        refine ⟨j, 2, ys, rfl, ⟨HO.out, by omega, by simp; omega, .inr ⟨by simp; omega, .inl ⟨rfl, ?_⟩⟩⟩, HY.out, ?_⟩
        · have h := HXJ.out
          rw [List.getElem?_eq_getElem (by simp; omega)] at h
          injection h with h
          rw [h]
          intro hok
          have := HCC.out.2 hok
          cases this
        · exact HL3.out.shutP hyl
      | true =>
        obtain ⟨q0, q1, fq0, fq1, zq, _, _⟩ := HL3.out.c2 0 rfl
        go_wp2_with fail
        refine (count_q g _ _ _ w3 q1).mono ?_
        rintro e w' ⟨rfl, rfl⟩
        by_cases hfull : es.length + j = 4096
        · have hf1 : (4096 : Int) ≤ ((es.length + j : Nat) : Int) := by omega
          go_wp2
          go_step3
          refine ⟨rfl, ?_⟩
          go_wp2
          refine noGoto_ret' ?_
          go_ret
          refine ⟨j, 6, ys, rfl, ⟨HO.out, by omega, by simp; omega, .inr ⟨by simp; omega, .inr ⟨rfl, ?_, hfull⟩⟩⟩, HY.out, ?_⟩
          · have h := HXJ.out
            rw [List.getElem?_eq_getElem (by simp; omega)] at h
            injection h with h
            rw [h]
            exact HCC.out.1 (by simp)
          · exact HL3.out.shutP hyl
        · have hf1 : ¬ (4096 : Int) ≤ ((es.length + j : Nat) : Int) := by omega
          obtain ⟨i0, hi0, iz0, iz1, iz2⟩ := info_parts info_ent
          have HXN : Hid (x.v.nodes ≤ 256) := by
            have h1 := (HCC.out.1 (by simp)).nodes
            simp only [ME.plain, MT.plain_nodes] at h1
            exact h1
          have HXI := Lib.hid (HI.out.touch0 HT3.out)
          obtain ⟨x0, x1, x2, x3, x4, x5, x6, _, zx, _, _⟩ := HL3.out.c7 3 rfl
          go_wp2_with fail
          go_region_law (first
            | (refine step_append_S _ rfl (.tmp 29) (.tmp 32) 32 rfl 27 i0 _ 7 72 Try.underlying32 hi0 iz0 iz1 iz2 rfl (by decide) (.slice qa (es.length + j) qc) (es.length + j) (entCells (es ++ ys)) (by simp [Act.eval]) ((HL4.out.alloc_ _).rowSAt 1 rfl) (some ⟨w4.heap.size, 0, none⟩) 1 1 x'.cells (by simp [Act.eval]) rfl (.inr ⟨_, rfl, World.news_of_block (heap_alloc_new w4 _)⟩) (by have := ents_one [x']; simpa [entCells] using this) (by simp only [maxLen]; omega) (by omega) ?_; intro a5 c5 w5 hown hgrow hat; have HL5 := Lib.hid ((HL4.out.alloc_ _).grownS 1 rfl hgrow hown hat); simp only [List.set_cons_succ, List.set_cons_zero] at HL5; clear hown hgrow hat q0 q1 fq0 fq1 zq; obtain ⟨q0, q1, fq0, fq1, zq, _, _⟩ := HL5.out.c2 0 rfl)
            | (go_simp; refine (copyEntry_q x w3.drew (HXI.out.touch0 (Touch.refl [] w3).drew) HXN.out).mono ?_; rintro e w4 ⟨x', rfl, hpl, hin, hnew, ht⟩; have HL4 := Lib.hid (HL3.out.drew.valsNew (vs := [x'.v]) ht (by simpa using hin) (by simpa using hnew)); simp only [List.nil_append, List.cons_append] at HL4; have HPL := Lib.hid hpl; clear hpl hin hnew ht q0 q1 fq0 fq1 zq x0 x1 x2 x3 x4 x5 x6 zx; obtain ⟨q0, q1, fq0, fq1, zq, _, _⟩ := HL4.out.c2 0 rfl; simp only [ent_eq]))
          all_goals
            have HL6 : Hid (Led T w (w5.setCell ⟨g, 1, none⟩ (.slice a5 (es.length + j + 1) c5)) [box g 67 #[.bool true, .slice a5 (es.length + (j + 1)) c5], rowT 27 7 (.slice a5 (es.length + (j + 1)) c5) (es.length + (j + 1)) (entCells (es ++ (ys ++ [x']))), valsT ((ys ++ [x']).map ME.v)]) := by
              have h := HL5.out.set 0 rfl 1 (.slice a5 (es.length + j + 1) c5)
              simp only [List.set_cons_succ, List.set_cons_zero, List.setIfInBounds_toArray] at h
              have h2 := Led.valsJoin (l := [_, _]) (h.sel [0, 1, 2, 4] rfl (by decide))
              rw [← List.append_assoc, entCells_append, List.map_append]
              exact h2
            have HY6 : Hid ((ys ++ [x']).map ME.plain = (xs.map ME.plain).take (j + 1)) := by
              unfold Hid
              rw [List.take_add_one, HXJ.out, List.map_append, HY.out, ← HPL.out]
              rfl
            have HO6 : Hid (∀ i (h : i < (xs.map ME.plain).length), i < j + 1 → (xs.map ME.plain)[i].Ok) := by
              unfold Hid
              intro i h hi
              by_cases hij : i < j
              · exact HO.out i h hij
              · obtain rfl : i = j := by omega
                have h2 := HXJ.out
                rw [List.getElem?_eq_getElem h] at h2
                injection h2 with h2
                rw [h2]
                exact HCC.out.1 (by simp)
            have hyl6 : (es ++ (ys ++ [x'])).length = es.length + (j + 1) := by simp at hyl ⊢; omega
            clear HL5 HL4 HL3 q0 q1 fq0 fq1 zq
            go_wp2
            go_roundw
            case rel => exact ⟨j + 1, ys ++ [x'], a5, c5, by omega, by go_num, rfl, by omega, hyl6, HY6, HO6, HL6⟩
            case measure => simp [intOf]; omega
    · have hjl' : ¬ (j : Int) < (xs.length : Int) := by omega
      obtain rfl : j = xs.length := by omega
      go_wp2
      go_step3
      go_wp2
      refine jump_ret ?_
      go_ret
      refine ⟨xs.length, 0, ys, rfl, ⟨HO.out, by omega, by simp, .inl ⟨rfl, by simp⟩⟩, HY.out, ?_⟩
      exact HK.out.shutP hyl
end Go.Proofs.Ytihmbgdkllmkaaa

/-
  Layer 13: At, Len, Drop (queue.go).
-/
namespace Go.Proofs.Ytihmbgdkllmkaaa
open Go.RowKit Go.Shelf
set_option maxRecDepth 100000
set_option linter.unusedVariables false
set_option linter.unusedSimpArgs false

/-- A queue lies at g. -/
def QAt (w : World) (g : Nat) (es : List ME) : Prop := ∃ a cap, Blk w g 67 #[.bool true, .slice a es.length cap] ∧ es.length ≤ cap ∧ cap ≤ maxLen ∧ rowS w 27 7 (.slice a es.length cap) es.length (entCells es)
theorem Led.qAt {T : List Nat} {w0 w : World} {l : List Thing} {g : Nat} {es : List ME} (h : Led T w0 w l) (i : Nat) (hi : l[i]? = some (queueT g es)) : QAt w g es := h.q0 i hi
theorem QAt.touch {w w' : World} {g : Nat} {es : List ME} (h : QAt w g es) (ht : Touch [] w w') : QAt w' g es := by
  obtain ⟨a, cap, h1, h2, h3, h4⟩ := h
  exact ⟨a, cap, h1.touch ht (by simp), h2, h3, rowS_keep h4 (fun k hk => ht.block k (rowS_lt h4 k hk) (by simp))⟩

theorem Len_q (w : World) (g : Nat) (es : List ME) (h : QAt w g es) : Calls Try.prog 19 #[.pointer (some ⟨g, 0, none⟩)] w fun e w' => e = .returned (.int .i64 (es.length : Int)) ∧ w = w' := by
  obtain ⟨a, cap, hb, _, _, _⟩ := h
  have q0 := hb.cell 0
  have q1 := hb.cell 1
  simp at q0 q1
  go_enter Try.func19, Try.ntmps19
  go_wp2_with fail
  refine (none_no g w q0).mono ?_
  rintro e w' ⟨rfl, rfl⟩
  go_wp2_with fail
  refine (count_q g _ _ _ w q1).mono ?_
  rintro e w' ⟨rfl, rfl⟩
  go_wp2
  go_ret
  exact ⟨rfl, rfl⟩

theorem Led.setEnt {T : List Nat} {w0 w : World} {l : List Thing} (h : Led T w0 w l) (i : Nat) {b t : Nat} {y0 y1 y2 y3 y4 y5 y6 : Value} (hi : l[i]? = some (Proofs.Ytihmbgdkllmkaaa.box b t #[y0, y1, y2, y3, y4, y5, y6])) (s th br f k n : Int) (v : Value) :
    Led T w0 (((((((w.setCell ⟨b, 0, none⟩ (.int .i64 s)).setCell ⟨b, 1, none⟩ (.int .i64 th)).setCell ⟨b, 2, none⟩ (.int .i64 br)).setCell ⟨b, 3, none⟩ (.int .i64 f)).setCell ⟨b, 4, none⟩ (.int .i64 k)).setCell ⟨b, 5, none⟩ (.int .i64 n)).setCell ⟨b, 6, none⟩ v)
      (l.set i (Proofs.Ytihmbgdkllmkaaa.box b t #[.int .i64 s, .int .i64 th, .int .i64 br, .int .i64 f, .int .i64 k, .int .i64 n, v])) := by
  have hl := (List.getElem?_eq_some_iff.1 hi).1
  have e : ∀ (l : List Thing) (t1 t2 : Thing), (l.set i t1).set i t2 = l.set i t2 := fun l t1 t2 => List.set_set t1
  have g : ∀ (t1 : Thing), (l.set i t1)[i]? = some t1 := fun t1 => List.getElem?_set_self hl
  have h1 := h.set i hi 0 (.int .i64 s)
  have h2 := h1.set i (g _) 1 (.int .i64 th)
  rw [e] at h2
  have h3 := h2.set i (g _) 2 (.int .i64 br)
  rw [e] at h3
  have h4 := h3.set i (g _) 3 (.int .i64 f)
  rw [e] at h4
  have h5 := h4.set i (g _) 4 (.int .i64 k)
  rw [e] at h5
  have h6 := h5.set i (g _) 5 (.int .i64 n)
  rw [e] at h6
  have h7 := h6.set i (g _) 6 v
  rw [e] at h7
  simp only [List.setIfInBounds_toArray, List.set_cons_zero, List.set_cons_succ] at h7
  exact h7
/-- Entry i of some, if there is one. -/
def AtR (es : List PE) (i : Int) (x : ME) (c : Bool) : Prop := (c = true ∧ 0 ≤ i ∧ es[i.toNat]? = some x.plain) ∨ (c = false ∧ ¬ (0 ≤ i ∧ i < (es.length : Int)) ∧ x = ME.zero)
def AtTold (es : List PE) (i : Int) (w : World) (e : Ending) (w' : World) : Prop := ∃ x c, e = .returned (.tuple #[x.val, .bool c]) ∧ AtR es i x c ∧ x.v.In w' ∧ (∀ k ∈ x.v.blocks, w.heap.size ≤ k) ∧ Touch [] w w'
theorem build_ent (w : World) : (Instr.build 27 #[]).run Try.prog w = .ok ME.zero.val w := run_build w 27 _ _ (by kernel_rfl)
set_option maxHeartbeats 2000000 in
theorem At_q (w : World) (g : Nat) (es : List ME) (i : Int) (h : QAt w g es) (hin : ∀ e ∈ es, e.v.In w ∧ e.v.nodes ≤ 256) : Calls Try.prog 31 #[.pointer (some ⟨g, 0, none⟩), .int .i64 i] w (AtTold (es.map ME.plain) i w) := by
  have HIN := Lib.hid hin
  clear hin
  obtain ⟨a, cap, hb, hc1, hc2, hr⟩ := h
  have HQ : Hid (∀ W, Touch [] w W → W.cell? ⟨g, 0, none⟩ = some (.bool true) ∧ W.cell? ⟨g, 1, none⟩ = some (.slice a es.length cap) ∧ g < W.heap.size) := fun W hW => ⟨hW.cellOf (hb.cell 0), hW.cellOf (hb.cell 1), Nat.lt_of_lt_of_le hb.lt hW.size⟩
  have hbe := build_ent
  simp only [ent_eq, ME.zero, MT.zero, MT.kind, MT.num, MT.addr, MT.parts, MT.cap, List.length_nil] at hbe
  go_enter Try.func31, Try.ntmps31
  go_wp2_with fail
  refine wp_calls_name ?_
  intro w1 hw1
  have HL1 := Lib.hid ((Led.nil' w).al1 hw1)
  simp only [List.nil_append, List.cons_append] at HL1
  obtain ⟨b4, hb4⟩ : ∃ b, w.heap.size = b := ⟨_, rfl⟩
  rw [hb4] at HL1 ⊢
  clear hb4 hw1
  obtain ⟨q0, q1, zq⟩ := HQ.out w1 HL1.out.tch
  refine (none_no g w1 q0).mono ?_
  rintro e w' ⟨rfl, rfl⟩
  go_wp2_with fail
  refine (has_q g _ _ _ i w1 q1).mono ?_
  rintro e w' ⟨⟨cc, rfl, hcc⟩, rfl⟩
  have HCC := Lib.hid hcc
  clear hcc
  obtain ⟨r0, r1, r2, r3, r4, r5, r6, ⟨f0, f1, f2, f3, f4, f5, f6⟩, zr, _, _⟩ := HL1.out.c7 0 rfl
  cases cc with
  | false =>
    go_wp2
    have HL2 := Lib.hid (HL1.out.setEnt 0 rfl 0 0 0 0 0 0 (.slice none 0 0))
    simp only [List.set_cons_zero] at HL2
    obtain ⟨s0, s1, s2, s3, s4, s5, s6, _⟩ := HL2.out.c7 0 rfl
    refine bodyPost_ret (v := .tuple #[ME.zero.val, .bool false]) (by simp [results, Try.results31, go_sem, s0, s1, s2, s3, s4, s5, s6, ent_eq, ME.zero, MT.zero, MT.kind, MT.num, MT.addr, MT.parts, MT.cap]) rfl ?_
    refine ⟨ME.zero, false, rfl, .inr ⟨rfl, fun hx => ?_, rfl⟩, MT.in_zero _, by simp [ME.zero, MT.zero, MT.blocks, MT.blocksAll], HL2.out.tch⟩
    have := HCC.out.2 (by simpa using hx)
    cases this
  | true =>
    obtain ⟨hi1, hi2⟩ := HCC.out.1 (by simp)
    obtain ⟨k, rfl⟩ := Int.eq_ofNat_of_zero_le hi1
    have hk : k < es.length := by omega
    obtain ⟨b, o, rfl, hbb, p0, p1, p2, p3, p4, p5, p6⟩ := (ents_of_rowS hr).touch HL1.out.tch k hk
    have HI := Lib.hid (HIN.out _ (List.getElem_mem hk))
    have HXJ : Hid ((es.map ME.plain)[k]? = some es[k].plain) := by unfold Hid; simp [hk]
    generalize es[k] = x at p0 p1 p2 p3 p4 p5 p6 HI HXJ
    go_wp2_with fail
    refine (copyEntry_q x w1 (HI.out.1.touch0 HL1.out.tch) HI.out.2).mono ?_
    rintro e w4 ⟨x', rfl, hpl, hxin, hnew, ht⟩
    have HL4 := Lib.hid (HL1.out.valsNew (vs := [x'.v]) ht (by simpa using hxin) (by simpa using hnew))
    simp only [List.nil_append, List.cons_append] at HL4
    have HPL := Lib.hid hpl
    have HNW : Hid (∀ k ∈ x'.v.blocks, w.heap.size ≤ k) := fun k hk => Nat.le_trans HL1.out.size (hnew k hk)
    clear hpl hxin hnew ht r0 r1 r2 r3 r4 r5 r6 f0 f1 f2 f3 f4 f5 f6 zr p0 p1 p2 p3 p4 p5 p6
    obtain ⟨r0, r1, r2, r3, r4, r5, r6, ⟨f0, f1, f2, f3, f4, f5, f6⟩, zr, _, _⟩ := HL4.out.c7 0 rfl
    simp only [ent_eq]
    go_wp2
    have HL5 := Lib.hid (HL4.out.setEnt 0 rfl x'.sync x'.thread x'.branch x'.flag x'.v.kind x'.v.num (.slice x'.v.addr x'.v.parts.length x'.v.cap))
    simp only [List.set_cons_zero] at HL5
    obtain ⟨s0, s1, s2, s3, s4, s5, s6, _⟩ := HL5.out.c7 0 rfl
    refine bodyPost_ret (v := .tuple #[x'.val, .bool true]) (by simp [results, Try.results31, go_sem, s0, s1, s2, s3, s4, s5, s6, ent_eq]) rfl ?_
    exact ⟨x', true, rfl, .inl ⟨rfl, by omega, by rw [HPL.out]; exact HXJ.out⟩, HL5.out.valsIn 1 rfl _ (by simp), HNW.out, HL5.out.tch⟩

theorem Led.rowCut {T : List Nat} {w0 w : World} {l : List Thing} (h : Led T w0 w l) (i : Nat) {e size g n cap : Nat} {xs : List Value} (hi : l[i]? = some (rowT e size (.slice (some ⟨g, 0, none⟩) n cap) n xs)) (m c : Nat) (hm : m ≤ c) (hc : c ≤ n) : Led T w0 w (l.set i (rowT e size (.slice (some ⟨g, 0, none⟩) m c) m (xs.take (m * size)))) := by
  obtain ⟨f, ⟨hf, hb⟩, _, hs⟩ := h.step i hi
  subst hf
  exact hs w _ _ ⟨rfl, rowS_cut hb m c hm hc rfl (.inl (by simp))⟩ ⟨Touch.refl _ _, fun k hk => .inl hk⟩
/-- Drop: what it tells, and what is left. -/
def Dropped (T : List Nat) (w : World) (g : Nat) (es : List ME) (i : Int) (e : Ending) (w' : World) : Prop :=
  (∃ x, 0 ≤ i ∧ es[i.toNat]? = some x ∧ e = .returned (.tuple #[x.val, .bool true]) ∧ Led T w w' [queueT g (es.eraseIdx i.toNat)]) ∨
  (¬ (0 ≤ i ∧ i < (es.length : Int)) ∧ e = .returned (.tuple #[ME.zero.val, .bool false]) ∧ Led T w w' [queueT g es])
set_option maxHeartbeats 4000000 in
theorem Drop_q (T : List Nat) (w : World) (g : Nat) (es : List ME) (i : Int) (hL : Led T w w [queueT g es]) (hes : es.length ≤ 1048576) : Calls Try.prog 18 #[.pointer (some ⟨g, 0, none⟩), .int .i64 i] w (Dropped T w g es i) := by
  obtain ⟨qa, qc, hqc1, hqc2, h1⟩ := Led.openQ (l := []) hL
  have HK := Lib.hid h1
  simp only [List.nil_append] at HK
  have hbe := build_ent
  simp only [ent_eq, ME.zero, MT.zero, MT.kind, MT.num, MT.addr, MT.parts, MT.cap, List.length_nil] at hbe
  clear h1 hL
  go_enter Try.func18, Try.ntmps18
  go_wp2_with fail
  refine wp_calls_name ?_
  intro w1 hw1
  have HL1 := Lib.hid (HK.out.al1 hw1)
  simp only [List.nil_append, List.cons_append] at HL1
  obtain ⟨b4, hb4⟩ : ∃ b, w.heap.size = b := ⟨_, rfl⟩
  rw [hb4] at HL1 ⊢
  clear hb4 hw1 HK
  obtain ⟨q0, q1, fq0, fq1, zq, _, _⟩ := HL1.out.c2 0 rfl
  refine (none_no g w1 q0).mono ?_
  rintro e w' ⟨rfl, rfl⟩
  go_wp2_with fail
  refine (has_q g _ _ _ i w1 q1).mono ?_
  rintro e w' ⟨⟨cc, rfl, hcc⟩, rfl⟩
  have HCC := Lib.hid hcc
  clear hcc
  obtain ⟨r0, r1, r2, r3, r4, r5, r6, ⟨f0, f1, f2, f3, f4, f5, f6⟩, zr, _, _⟩ := HL1.out.c7 2 rfl
  cases cc with
  | false =>
    go_wp2
    have HL2 := Lib.hid (HL1.out.setEnt 2 rfl 0 0 0 0 0 0 (.slice none 0 0))
    simp only [List.set_cons_zero, List.set_cons_succ] at HL2
    obtain ⟨s0, s1, s2, s3, s4, s5, s6, _⟩ := HL2.out.c7 2 rfl
    refine bodyPost_ret (v := .tuple #[ME.zero.val, .bool false]) (by simp [results, Try.results18, go_sem, s0, s1, s2, s3, s4, s5, s6, ent_eq, ME.zero, MT.zero, MT.kind, MT.num, MT.addr, MT.parts, MT.cap]) rfl ?_
    refine .inr ⟨fun hx => ?_, rfl, ?_⟩
    · have := HCC.out.2 hx
      cases this
    · exact Led.shutQ (l := []) (HL2.out.sel [0, 1] rfl (by decide))
  | true =>
    obtain ⟨hi1, hi2⟩ := HCC.out.1 (by simp)
    obtain ⟨k, rfl⟩ := Int.eq_ofNat_of_zero_le hi1
    have hk : k < es.length := by omega
    obtain ⟨gr, cap', cur, hv, _⟩ := rowS_form (HL1.out.rowSAt 1 rfl) (by omega)
    injection hv with hv1 _ hv3
    subst hv1 hv3
    obtain ⟨b, o, hbo, hbb, p0, p1, p2, p3, p4, p5, p6⟩ := (ents_of_rowS (HL1.out.rowSAt 1 rfl)) k hk
    injection hbo with hbo
    injection hbo with hbo1 hbo2
    subst hbo1 hbo2
    have HXJ : Hid (es[k]? = some es[k]) := by unfold Hid; simp [hk]
    generalize es[k] = x at p0 p1 p2 p3 p4 p5 p6 HXJ
    obtain ⟨i0, hi0, iz0, iz1, iz2⟩ := info_parts info_ent
    obtain ⟨sa, hsa, hsl2⟩ := run_slice_from Try.underlying32 hi0 (some ⟨gr, 0, none⟩) es.length qc (k + 1) (by omega) hqc1
    have hsl1 := fun W => run_slice_cut Try.underlying32 hi0 (some ⟨gr, 0, none⟩) es.length qc k (by omega) W
    have HSA := Lib.hid hsa
    clear hsa
    rw [show (((k + 1 : Nat)) : Int) = (k : Int) + 1 by omega] at hsl2
    simp only [Nat.zero_add] at p0 p1 p2 p3 p4 p5 p6
    have hwk : IntKind.i64.wrap ((k : Int) + 1) = (k : Int) + 1 := IntWalk.i64_in _ (by omega)
    go_wp2_with fail
    refine wp_name ?_
    intro w2 hw2
    have HL2 := Lib.hid (HL1.out.al1 hw2)
    simp only [List.nil_append, List.cons_append] at HL2
    obtain ⟨b6, hb6⟩ : ∃ b, w1.heap.size = b := ⟨_, rfl⟩
    rw [hb6] at HL2 ⊢
    clear hw2 hb6 HL1 p0 p1 p2 p3 p4 p5 p6 q0 q1 fq0 fq1 zq r0 r1 r2 r3 r4 r5 r6 f0 f1 f2 f3 f4 f5 f6 zr hbb
    have HLC := Lib.hid (HL2.out.drew.rowCut 1 rfl k k (Nat.le_refl _) (by omega))
    simp only [List.set_cons_zero, List.set_cons_succ] at HLC
    have HLN : Hid (((entCells es).drop ((k + 1) * 7)).length = (es.length - (k + 1)) * 7) := by
      unfold Hid
      rw [List.length_drop, entCells_length, Nat.sub_mul]
    obtain ⟨q0, q1, fq0, fq1, zq, _, _⟩ := HL2.out.c2 0 rfl
    go_region_law (first
      | (refine step_append_S _ rfl (.tmp 34) (.tmp 42) 32 rfl 27 i0 _ 7 72 Try.underlying32 hi0 iz0 iz1 iz2 rfl (by decide) (.slice (some ⟨gr, 0, none⟩) k k) k ((entCells es).take (k * 7)) (by first | rfl | simp [Act.eval, Act.put]) (HLC.out.rowSAt 1 rfl) sa (es.length - (k + 1)) (qc - (k + 1)) ((entCells es).drop ((k + 1) * 7)) (by first | rfl | simp [Act.eval, Act.put]) HLN.out (rowS_src (lo := k + 1) (HL2.out.drew.rowSAt 1 rfl) (by rw [iz1]) HSA.out) (fun u hu => ents_one es u (List.mem_of_mem_drop hu)) (by simp only [maxLen]; omega) (by omega) ?_; intro a5 c5 w5 hown hgrow hat; have HL5 := Lib.hid (HLC.out.grownS 1 rfl hgrow hown hat); simp only [List.set_cons_succ, List.set_cons_zero] at HL5; clear hown hgrow hat q0 q1 fq0 fq1 zq; obtain ⟨q0, q1, fq0, fq1, zq, _, _⟩ := HL5.out.c2 0 rfl))
    all_goals
      have HLE : Hid (k + (es.length - (k + 1)) = (es.eraseIdx k).length ∧ (entCells es).take (k * 7) ++ (entCells es).drop ((k + 1) * 7) = entCells (es.eraseIdx k)) := by
        refine ⟨?_, ?_⟩
        · rw [List.length_eraseIdx_of_lt hk]; omega
        · rw [List.eraseIdx_eq_take_drop_succ, entCells_append, entCells_take, entCells_drop]
      have HL6 := Lib.hid (HL5.out.set 0 rfl 1 (.slice a5 (k + (es.length - (k + 1))) c5))
      simp only [List.set_cons_succ, List.set_cons_zero, List.setIfInBounds_toArray] at HL6
      rw [HLE.out.2, HLE.out.1] at HL6
      rw [HLE.out.1]
      refine Hid.out ?_
      obtain ⟨w6, hw6⟩ : ∃ w6, w5.setCell ⟨g, 1, none⟩ (.slice a5 (es.eraseIdx k).length c5) = w6 := ⟨_, rfl⟩
      rw [hw6] at HL6 ⊢
      refine Lib.hid ?_
      clear hw6 HL5 HLC HL2 q0 q1 fq0 fq1 zq hsl1 hsl2 hwk HLE
      obtain ⟨r0, r1, r2, r3, r4, r5, r6, ⟨f0, f1, f2, f3, f4, f5, f6⟩, zr, _, _⟩ := HL6.out.c7 2 rfl
      obtain ⟨y0, y1, y2, y3, y4, y5, y6, _, zy, _, _⟩ := HL6.out.c7 3 rfl
      have n1 := HL6.out.ne 2 3 rfl rfl (by decide)
      have n2 := Ne.symm n1
      go_wp2
      have HL7 := Lib.hid (HL6.out.setEnt 2 rfl x.sync x.thread x.branch x.flag x.v.kind x.v.num (.slice x.v.addr x.v.parts.length x.v.cap))
      simp only [List.set_cons_zero, List.set_cons_succ] at HL7
      obtain ⟨s0, s1, s2, s3, s4, s5, s6, _⟩ := HL7.out.c7 2 rfl
      refine bodyPost_ret (v := .tuple #[x.val, .bool true]) (by simp [results, Try.results18, go_sem, s0, s1, s2, s3, s4, s5, s6, ent_eq]) rfl ?_
      exact .inl ⟨x, by omega, HXJ.out, rfl, Led.shutQ (l := []) (HL7.out.sel [0, 1] rfl (by decide))⟩
end Go.Proofs.Ytihmbgdkllmkaaa

/-
  Layer 13: index, Find, Next (queue.go).
-/
namespace Go.Proofs.Ytihmbgdkllmkaaa
open Go.RowKit Go.Shelf
set_option maxRecDepth 100000
set_option linter.unusedVariables false
set_option linter.unusedSimpArgs false

/-- The index of the first entry, from an index on, for which P holds, or -1. -/
def IdxR (P : PE → Prop) (es : List PE) (fr r : Int) : Prop :=
  (r = -1 ∧ ∀ j (h : j < es.length), fr ≤ (j : Int) → ¬ P es[j]) ∨ ∃ j, ∃ h : j < es.length, r = (j : Int) ∧ fr ≤ (j : Int) ∧ P es[j] ∧ ∀ i (h' : i < es.length), fr ≤ (i : Int) → i < j → ¬ P es[i]
theorem IdxR.unique {P : PE → Prop} {es : List PE} {fr r r' : Int} (h : IdxR P es fr r) (h' : IdxR P es fr r') : r = r' := by
  rcases h with ⟨h1, h2⟩ | ⟨j, hj, h1, h2, h3, h4⟩
  · rcases h' with ⟨h1', _⟩ | ⟨j', hj', h1', h2', h3', _⟩
    · omega
    · exact absurd h3' (h2 j' hj' h2')
  · rcases h' with ⟨h1', h2'⟩ | ⟨j', hj', h1', h2', h3', h4'⟩
    · exact absurd h3 (h2' j hj h2)
    · by_cases hlt : j < j'
      · exact absurd h3 (h4' j hj h2 hlt)
      · by_cases hlt2 : j' < j
        · exact absurd h3' (h4 j' hj' h2' hlt2)
        · omega
def IdxTold (P : PE → Prop) (es : List PE) (fr : Int) (w : World) (e : Ending) (w' : World) : Prop := ∃ r, e = .returned (.int .i64 r) ∧ IdxR P es fr r ∧ Touch [] w w'

set_option maxHeartbeats 2000000 in
theorem index_q (w : World) (a : Option Addr) (cap : Nat) (es : List ME) (fr : Int) (fc : Nat) (caps : Array Value) (P : PE → Prop) (hents : EntsAt w a es) (hlen : es.length ≤ 9223372036854775807)
    (eg : ∀ args w, (callFunc fc args).run Try.prog w = .ok (.enter fc args) w) (hch : ∀ e ∈ es, ∀ W, Touch [] w W → Calls Try.prog fc (#[e.val] ++ caps) W (Tells (P e.plain) W)) :
    Calls Try.prog 61 #[.slice a es.length cap, .int .i64 fr, .func (.func fc) #[] caps] w (IdxTold P (es.map ME.plain) fr w) := by
  have HE := Lib.hid hents
  have HCH := Lib.hid hch
  clear hents hch
  simp only [ent_eq] at HCH
  have hmx : ∃ f0 : Nat, max fr 0 = (f0 : Int) ∧ (∀ j : Nat, fr ≤ (j : Int) ↔ f0 ≤ j) := ⟨(max fr 0).toNat, by omega, fun j => by omega⟩
  obtain ⟨f0, hf0, hf1⟩ := hmx
  have HF := Lib.hid hf1
  clear hf1
  by_cases hfr : 0 ≤ fr
  all_goals
    go_enter Try.func61, Try.ntmps61
    go_wp2_with fail
    go_loopw [7] (fun i wr => ∃ j : Nat, i = .int .i64 (j : Int) ∧ f0 ≤ j ∧ Hid (∀ i (h : i < (es.map ME.plain).length), f0 ≤ i → i < j → ¬ P (es.map ME.plain)[i]) ∧ Hid (Touch [] w wr)) (fun i _ => es.length - (intOf i).toNat)
    case atStart => exact ⟨f0, by congr 1; omega, Nat.le_refl _, by unfold Hid; intro i _ h1 h2; omega, Touch.refl [] w⟩
    case round =>
      obtain ⟨j, rfl, hjf, HD, HT⟩ := hrel
      have hj0 : (0 : Int) ≤ (j : Int) := by omega
      by_cases hjl : j < es.length
      · have hjl' : (j : Int) < (es.length : Int) := by omega
        obtain ⟨b, o, rfl, hb, p0, p1, p2, p3, p4, p5, p6⟩ := (HE.out.touch HT.out) j hjl
        have HC := Lib.hid (HCH.out _ (List.getElem_mem hjl) wr HT.out)
        have HXJ : Hid ((es.map ME.plain)[j]'(by simpa using hjl) = es[j].plain) := by unfold Hid; simp
        generalize es[j] = x at p0 p1 p2 p3 p4 p5 p6 HC HXJ
        go_wp2_with fail
        refine HC.out.mono ?_
        rintro e w2 ⟨cc, rfl, hcc, ht⟩
        have HT2 := Lib.hid (HT.out.trans' ht)
        have HCC := Lib.hid hcc
        clear hcc ht p0 p1 p2 p3 p4 p5 p6 HC
        cases cc with
        | false =>
          go_wp2
          go_roundw
          case rel =>
            refine ⟨j + 1, by go_num, by omega, ?_, HT2⟩
            unfold Hid
            intro i h h1 h2
            by_cases hij : i = j
            · subst hij
              rw [HXJ.out]
              intro hp
              have := HCC.out.2 hp
              cases this
            · exact HD.out i h h1 (by omega)
          case measure => simp [intOf]; omega
        | true =>
          go_wp2
          go_ret
          refine ⟨(j : Int), rfl, .inr ⟨j, by simpa using hjl, rfl, (HF.out j).2 hjf, ?_, fun i h h1 h2 => HD.out i h ((HF.out i).1 h1) h2⟩, HT2.out⟩
          rw [HXJ.out]
          exact HCC.out.1 (by simp)
      · have hjl' : ¬ (j : Int) < (es.length : Int) := by omega
        go_wp2
        go_ret
        exact ⟨-1, rfl, .inl ⟨rfl, fun i h h1 => HD.out i h ((HF.out i).1 h1) (by simp at h; omega)⟩, HT.out⟩

theorem Find1_q (e : ME) (b : Nat) (z : Int) (w : World) (hb : w.cell? ⟨b, 0, none⟩ = some (.int .i64 z)) : Calls Try.prog 62 (#[e.val] ++ #[.pointer (some ⟨b, 0, none⟩)]) w (Tells (e.plain.sync = z) w) := by
  have hlt := World.block_lt_of_cell? _ _ hb
  simp only [ent_eq, List.append_toArray, List.cons_append, List.nil_append]
  go_enter Try.func62, Try.ntmps62
  go_wp2
  go_ret
  exact ⟨_, rfl, by simp [ME.plain], (Touch.refl [] w).alloc _⟩
theorem Next1_q (e : ME) (b : Nat) (z : Int) (w : World) (hb : w.cell? ⟨b, 0, none⟩ = some (.int .i64 z)) : Calls Try.prog 76 (#[e.val] ++ #[.pointer (some ⟨b, 0, none⟩)]) w (Tells (e.plain.thread ≠ z) w) := by
  have hlt := World.block_lt_of_cell? _ _ hb
  simp only [ent_eq, List.append_toArray, List.cons_append, List.nil_append]
  go_enter Try.func76, Try.ntmps76
  go_wp2
  go_ret
  exact ⟨_, rfl, by simp [ME.plain], (Touch.refl [] w).alloc _⟩
set_option maxHeartbeats 1000000 in
theorem Find_q (w : World) (g : Nat) (es : List ME) (z : Int) (h : QAt w g es) : Calls Try.prog 20 #[.pointer (some ⟨g, 0, none⟩), .int .i64 z] w (IdxTold (fun e => e.sync = z) (es.map ME.plain) 0 w) := by
  have HQA := Lib.hid h
  clear h
  go_enter Try.func20, Try.ntmps20
  go_wp2_with fail
  refine wp_calls_name ?_
  intro w1 hw1
  have HL1 := Lib.hid ((Led.nil' w).al1 hw1)
  simp only [List.nil_append, List.cons_append] at HL1
  obtain ⟨b3, hb3⟩ : ∃ b, w.heap.size = b := ⟨_, rfl⟩
  rw [hb3] at HL1 ⊢
  clear hb3 hw1
  obtain ⟨a, cap, hb, hc1, hc2, hr⟩ := HQA.out.touch HL1.out.tch
  have HE := Lib.hid (ents_of_rowS hr)
  have q0 := hb.cell 0
  have q1 := hb.cell 1
  have hlen : es.length ≤ 9223372036854775807 := by unfold maxLen at hc2; omega
  simp at q0 q1
  clear hb hr hc2
  refine (none_no g w1 q0).mono ?_
  rintro e w' ⟨rfl, rfl⟩
  have HB := Lib.hid (HL1.out.c1 0 rfl).1
  go_wp2_with fail
  refine (index_q w1 a cap es 0 62 #[.pointer (some ⟨b3, 0, none⟩)] (fun e => e.sync = z) HE.out hlen (enters_of Try.func62 (by kernel_rfl) rfl) (fun e he W hW => Find1_q e b3 z W (hW.cellOf HB.out))).mono ?_
  rintro e w2 ⟨r, rfl, hr, ht⟩
  have HR := Lib.hid hr
  have HT := Lib.hid (HL1.out.tch.trans' ht)
  clear hr ht
  go_wp2
  go_ret
  exact ⟨r, rfl, HR.out, HT.out⟩
/-- Next: an index, whether there is one. -/
def NextR (P : PE → Prop) (es : List PE) (fr k : Int) (c : Bool) : Prop := ∃ r, IdxR P es fr r ∧ k = max r 0 ∧ (c = true ↔ 0 ≤ r)
theorem NextR.unique {P : PE → Prop} {es : List PE} {fr k k' : Int} {c c' : Bool} (h : NextR P es fr k c) (h' : NextR P es fr k' c') : k = k' ∧ c = c' := by
  obtain ⟨r, h1, h2, h3⟩ := h
  obtain ⟨r', h1', h2', h3'⟩ := h'
  obtain rfl := h1.unique h1'
  refine ⟨by omega, ?_⟩
  cases c <;> cases c' <;> simp_all <;> omega
def NextTold (P : PE → Prop) (es : List PE) (fr : Int) (w : World) (e : Ending) (w' : World) : Prop := ∃ k c, e = .returned (.tuple #[.int .i64 k, .bool c]) ∧ NextR P es fr k c ∧ Touch [] w w'
set_option maxHeartbeats 1000000 in
theorem Next_q (w : World) (g : Nat) (es : List ME) (fr z : Int) (h : QAt w g es) : Calls Try.prog 32 #[.pointer (some ⟨g, 0, none⟩), .int .i64 fr, .int .i64 z] w (NextTold (fun e => e.thread ≠ z) (es.map ME.plain) fr w) := by
  have HQA := Lib.hid h
  clear h
  go_enter Try.func32, Try.ntmps32
  go_wp2_with fail
  refine wp_calls_name ?_
  intro w1 hw1
  have HL1 := Lib.hid ((Led.nil' w).al1 hw1)
  simp only [List.nil_append, List.cons_append] at HL1
  obtain ⟨b3, hb3⟩ : ∃ b, w.heap.size = b := ⟨_, rfl⟩
  rw [hb3] at HL1 ⊢
  clear hb3 hw1
  obtain ⟨a, cap, hb, hc1, hc2, hr⟩ := HQA.out.touch HL1.out.tch
  have HE := Lib.hid (ents_of_rowS hr)
  have q0 := hb.cell 0
  have q1 := hb.cell 1
  have hlen : es.length ≤ 9223372036854775807 := by unfold maxLen at hc2; omega
  simp at q0 q1
  clear hb hr hc2
  refine (none_no g w1 q0).mono ?_
  rintro e w' ⟨rfl, rfl⟩
  have HB := Lib.hid (HL1.out.c1 0 rfl).1
  go_wp2_with fail
  refine (index_q w1 a cap es fr 76 #[.pointer (some ⟨b3, 0, none⟩)] (fun e => e.thread ≠ z) HE.out hlen (enters_of Try.func76 (by kernel_rfl) rfl) (fun e he W hW => Next1_q e b3 z W (hW.cellOf HB.out))).mono ?_
  rintro e w2 ⟨r, rfl, hr, ht⟩
  have HR := Lib.hid hr
  have HT := Lib.hid (HL1.out.tch.trans' ht)
  clear hr ht
  go_wp2
  all_goals go_ret2
  all_goals exact ⟨_, _, rfl, ⟨r, HR.out, by omega, by first | (simp; done) | (simp; omega)⟩, HT.out⟩
end Go.Proofs.Ytihmbgdkllmkaaa

/-
  The ledger: what a callee made beside what was there. No program is in sight.
-/
namespace Go.Proofs.Ytihmbgdkllmkaaa
open Go.RowKit
set_option linter.unusedVariables false
section
variable {T : List Nat} {w0 w w' : World} {l l' : List Thing}
theorem Led.reindex (h : Led T w0 w l) (σ : Nat → Nat) (h1 : ∀ i t, l'[i]? = some t → l[σ i]? = some t) (h2 : ∀ i j, i < l'.length → j < l'.length → σ i = σ j → i = j) : Led T w0 w l' := by
  obtain ⟨hb, F, g1, g2⟩ := h
  refine ⟨hb, fun i => F (σ i), fun i t hi => g1 _ t (h1 i t hi), fun i j hi hj hij => ?_⟩
  have e1 := h1 i _ (List.getElem?_eq_getElem hi)
  have e2 := h1 j _ (List.getElem?_eq_getElem hj)
  exact g2 _ _ (List.getElem?_eq_some_iff.1 e1).1 (List.getElem?_eq_some_iff.1 e2).1 (fun e => hij (h2 i j hi hj e))
theorem Led.swapEnd {a b c : List Thing} (h : Led T w0 w (a ++ b ++ c)) : Led T w0 w (a ++ c ++ b) := by
  refine h.reindex (fun i => if i < a.length then i else if i < a.length + c.length then i + b.length else i - c.length) ?_ ?_
  · intro i t hi
    have hl := (List.getElem?_eq_some_iff.1 hi).1
    simp only [List.length_append] at hl
    by_cases h1 : i < a.length
    · rw [if_pos h1]
      rw [List.append_assoc, List.getElem?_append_left h1] at hi
      rw [List.append_assoc, List.getElem?_append_left h1]
      exact hi
    · rw [if_neg h1]
      rw [List.append_assoc, List.getElem?_append_right (by omega)] at hi
      by_cases h2 : i < a.length + c.length
      · rw [if_pos h2]
        rw [List.getElem?_append_left (by omega)] at hi
        rw [List.append_assoc, List.getElem?_append_right (by omega), List.getElem?_append_right (by omega)]
        rw [show i + b.length - a.length - b.length = i - a.length from by omega]
        exact hi
      · rw [if_neg h2]
        rw [List.getElem?_append_right (by omega)] at hi
        rw [List.append_assoc, List.getElem?_append_right (by omega), List.getElem?_append_left (by omega)]
        rw [show i - c.length - a.length = i - a.length - c.length from by omega]
        exact hi
  · intro i j hi hj
    simp only [List.length_append] at hi hj
    repeat' split
    all_goals omega
theorem Led.join {m : List Thing} (h : Led T w0 w l) (h' : Led [] w w' m) : Led T w0 w' (l ++ m) := by
  have hz := h.size
  obtain ⟨hb, F, g1, g2⟩ := h
  obtain ⟨hb', F', g1', g2'⟩ := h'
  have hnew : ∀ j, j < m.length → ∀ x ∈ F' j, w.heap.size ≤ x := fun j hj x hx => ((g1' j _ (List.getElem?_eq_getElem hj)).2 x hx).elim (fun h => by simp at h) id
  have hold : ∀ j, j < l.length → ∀ x ∈ F j, x < w.heap.size := fun j hj x hx => l[j].lt (g1 j l[j] (List.getElem?_eq_getElem hj)).1 x hx
  refine ⟨hb.trans hb' (by simp), fun j => if j < l.length then F j else F' (j - l.length), ?_, ?_⟩
  · intro j u hj
    by_cases hjl : j < l.length
    · rw [List.getElem?_append_left hjl] at hj
      simp only [if_pos hjl]
      exact ⟨u.keep (g1 j u hj).1 (fun k hk => hb'.block k (u.lt (g1 j u hj).1 k hk) (by simp)), (g1 j u hj).2⟩
    · rw [List.getElem?_append_right (by omega)] at hj
      simp only [if_neg hjl]
      have hj' := (List.getElem?_eq_some_iff.1 hj).1
      exact ⟨(g1' _ u hj).1, fun k hk => .inr (by have := hnew _ hj' k hk; omega)⟩
  · intro i j hi hj hij x hx hx2
    dsimp only at hx hx2
    simp only [List.length_append] at hi hj
    by_cases h1 : i < l.length
    · rw [if_pos h1] at hx
      by_cases h2 : j < l.length
      · rw [if_pos h2] at hx2; exact g2 i j h1 h2 hij x hx hx2
      · rw [if_neg h2] at hx2
        have := hnew _ (by omega) x hx2
        have := hold i h1 x hx
        omega
    · rw [if_neg h1] at hx
      by_cases h2 : j < l.length
      · rw [if_pos h2] at hx2
        have := hnew _ (by omega) x hx
        have := hold j h2 x hx2
        omega
      · rw [if_neg h2] at hx2
        exact g2' _ _ (by omega) (by omega) (by omega) x hx hx2
end
end Go.Proofs.Ytihmbgdkllmkaaa

/-
  The ledger: one thing for all that never turns, the memory of before the call among it. No program is in sight.
-/
namespace Go.Proofs.Ytihmbgdkllmkaaa
open Go.RowKit
set_option linter.unusedVariables false
set_option linter.unusedSimpArgs false

/-- What P says holds as long as some blocks are as they are. -/
def stillT (P : World → Prop) : Thing where
  holds w fp := (∀ k ∈ fp, k < w.heap.size) ∧ ∀ W, (∀ k ∈ fp, W.heap[k]? = w.heap[k]?) → P W
  keep := fun {w w' fp} ⟨h1, h2⟩ he => ⟨fun k hk => by
    have := he k hk
    rw [Array.getElem?_eq_getElem (h1 k hk)] at this
    exact (Array.getElem?_eq_some_iff.1 this).1, fun W hW => h2 W (fun k hk => (hW k hk).trans (he k hk))⟩
  lt := fun h k hk => h.1 k hk
section
variable {T : List Nat} {w0 w w' : World} {l : List Thing} {P Q : World → Prop} {t t1 t2 t12 t' : Thing}
theorem Led.still (h : Led T w0 w l) (i : Nat) (hi : l[i]? = some (stillT P)) : P w := by
  obtain ⟨f, hf, _⟩ := h.get i hi
  exact hf.2 w (fun _ _ => rfl)
theorem Led.retype (h : Led T w0 w l) (i : Nat) (hi : l[i]? = some t) (ht : ∀ f, t.holds w f → t'.holds w f) : Led T w0 w (l.set i t') := by
  obtain ⟨f, hf, _, hs⟩ := h.step i hi
  exact hs w t' f (ht f hf) (Went.refl f w)
theorem Led.toStill (h : Led T w0 w l) (i : Nat) (hi : l[i]? = some t) (hP : ∀ W f, t.holds W f → P W) : Led T w0 w (l.set i (stillT P)) :=
  h.retype i hi (fun f hf => ⟨t.lt hf, fun W hW => hP W f (t.keep hf hW)⟩)
/-- The last thing goes into the thing j. -/
theorem Led.mergeAt (h : Led T w0 w (l ++ [t2])) (j : Nat) (hj : l[j]? = some t1) (hm : ∀ f1 f2, t1.holds w f1 → t2.holds w f2 → t12.holds w (f1 ++ f2)) : Led T w0 w (l.set j t12) := by
  have hlt := (List.getElem?_eq_some_iff.1 hj).1
  have h1 : Led T w0 w ((l.take j ++ l.drop (j + 1)) ++ [t1, t2]) := by
    refine h.reindex (fun i => if i < j then i else if i < l.length - 1 then i + 1 else if i = l.length - 1 then j else l.length) ?_ ?_
    · intro i t hi
      have hil := (List.getElem?_eq_some_iff.1 hi).1
      simp only [List.length_append, List.length_take, List.length_drop, List.length_cons, List.length_nil] at hil
      by_cases c1 : i < j
      · rw [if_pos c1]
        rw [List.getElem?_append_left (by simp; omega), List.getElem?_append_left (by simp; omega), List.getElem?_take_of_lt c1] at hi
        rw [List.getElem?_append_left (by omega)]; exact hi
      · rw [if_neg c1]
        by_cases c2 : i < l.length - 1
        · rw [if_pos c2]
          rw [List.getElem?_append_left (by simp; omega), List.getElem?_append_right (by simp; omega), List.getElem?_drop] at hi
          rw [List.getElem?_append_left (by omega)]
          rw [List.length_take, show j + 1 + (i - min j l.length) = i + 1 by omega] at hi
          exact hi
        · rw [if_neg c2]
          rw [List.getElem?_append_right (by simp; omega)] at hi
          by_cases c3 : i = l.length - 1
          · rw [if_pos c3, List.getElem?_append_left hlt, hj]
            rw [show i - (l.take j ++ l.drop (j + 1)).length = 0 by simp; omega] at hi
            simpa using hi
          · rw [if_neg c3, List.getElem?_append_right (Nat.le_refl _), Nat.sub_self]
            rw [show i - (l.take j ++ l.drop (j + 1)).length = 1 by simp; omega] at hi
            simpa using hi
    · intro a b ha hb hab
      simp only [List.length_append, List.length_take, List.length_drop, List.length_cons, List.length_nil] at ha hb
      split at hab <;> split at hab <;> (try split at hab) <;> (try split at hab) <;> (try split at hab) <;> (try split at hab) <;> omega
  have h2 := h1.merge hm
  refine h2.reindex (fun i => if i < j then i else if i = j then l.length - 1 else i - 1) ?_ ?_
  · intro i t hi
    have hil := (List.getElem?_eq_some_iff.1 hi).1
    simp only [List.length_set] at hil
    by_cases c1 : i < j
    · rw [if_pos c1, List.getElem?_append_left (by simp; omega), List.getElem?_append_left (by simp; omega), List.getElem?_take_of_lt c1]
      rwa [List.getElem?_set_ne (by omega)] at hi
    · rw [if_neg c1]
      by_cases c2 : i = j
      · subst c2
        rw [if_pos rfl, List.getElem?_append_right (by simp; omega), show l.length - 1 - (l.take i ++ l.drop (i + 1)).length = 0 by simp; omega]
        rw [List.getElem?_set_self hlt] at hi
        simpa using hi
      · rw [if_neg c2, List.getElem?_append_left (by simp; omega), List.getElem?_append_right (by simp; omega), List.getElem?_drop, List.length_take, show j + 1 + (i - 1 - min j l.length) = i by omega]
        rwa [List.getElem?_set_ne (by omega)] at hi
  · intro a b ha hb hab
    simp only [List.length_set] at ha hb
    split at hab <;> split at hab <;> (try split at hab) <;> (try split at hab) <;> omega
/-- The last thing never turns from here on. -/
theorem Led.settle (h : Led T w0 w (l ++ [t])) (j : Nat) (hj : l[j]? = some (stillT P)) (hQ : ∀ W f, P W → t.holds W f → Q W) : Led T w0 w (l.set j (stillT Q)) :=
  h.mergeAt j hj (fun f1 f2 ⟨a1, a2⟩ hb => ⟨fun k hk => (List.mem_append.1 hk).elim (a1 k) (t.lt hb k), fun W hW => hQ W f2 (a2 W (fun k hk => hW k (List.mem_append_left _ hk))) (t.keep hb (fun k hk => hW k (List.mem_append_right _ hk)))⟩)
theorem Led.weaken (h : Led T w0 w l) (i : Nat) (hi : l[i]? = some (stillT P)) (hQ : ∀ W, P W → Q W) : Led T w0 w (l.set i (stillT Q)) :=
  h.toStill i hi (fun W f hf => hQ W (hf.2 W (fun _ _ => rfl)))
/-- The memory of before is as it was. -/
def Old (w0 W : World) : Prop := ∀ k, k < w0.heap.size → W.heap[k]? = w0.heap[k]?
theorem Led.old0 (w : World) : Led (List.range w.heap.size) w w [stillT (Old w)] :=
  ⟨Touch.refl _ _, fun _ => List.range w.heap.size, fun i t hi => by
    cases i with
    | zero =>
      simp at hi; subst hi
      exact ⟨⟨fun k hk => List.mem_range.1 hk, fun W hW k hk => hW k (List.mem_range.2 hk)⟩, fun k hk => .inl hk⟩
    | succ i => simp at hi, fun i j hi hj hij => by simp at hi hj; omega⟩
theorem Led.oldTouch (h : Led T w0 w l) (ho : Old w0 w) : Touch [] w0 w := ⟨h.1.os, h.1.tape, h.1.output, h.1.size, fun k hk _ => ho k hk⟩
end
end Go.Proofs.Ytihmbgdkllmkaaa

/-
  The reference of layer 13 (betrothalref13/ref.go): At, Find, Next: calls that only read.
-/
namespace Go.Proofs.Ytihmbgdkllmkaaa
open Go.RowKit Go.Shelf
set_option maxRecDepth 100000
set_option linter.unusedVariables false
set_option linter.unusedSimpArgs false

/-- What the reference's At tells: the entry itself. -/
def AtRef (rs : List ME) (i : Int) (x : ME) (c : Bool) : Prop := (c = true ∧ 0 ≤ i ∧ rs[i.toNat]? = some x) ∨ (c = false ∧ ¬ (0 ≤ i ∧ i < (rs.length : Int)) ∧ x = ME.zero)
theorem AtRef.inq {rs : List ME} {i : Int} {x : ME} {c : Bool} (h : AtRef rs i x c) {p : ME → Prop} (h0 : p ME.zero) (hp : ∀ r ∈ rs, p r) : p x := by
  rcases h with ⟨_, _, h⟩ | ⟨_, _, rfl⟩
  · exact hp x (List.mem_of_getElem? h)
  · exact h0
theorem AtRef.plain {rs : List ME} {es : List PE} {i : Int} {x y : ME} {c d : Bool} (h : AtRef rs i x c) (hy : AtR es i y d) (he : es = rs.map ME.plain) : y.plain = x.plain ∧ d = c := by
  subst he
  rcases h with ⟨rfl, h1, h2⟩ | ⟨rfl, h1, rfl⟩
  · have hlt := (List.getElem?_eq_some_iff.1 h2).1
    rcases hy with ⟨rfl, h3, h4⟩ | ⟨rfl, h3, rfl⟩
    · rw [List.getElem?_map, h2] at h4
      simp at h4
      exact ⟨h4.symm, rfl⟩
    · simp only [List.length_map] at h3
      omega
  · rcases hy with ⟨rfl, h3, h4⟩ | ⟨rfl, h3, rfl⟩
    · have hlt := (List.getElem?_eq_some_iff.1 h4).1
      simp only [List.length_map] at hlt
      omega
    · exact ⟨rfl, rfl⟩
def AtToldR (rs : List ME) (i : Int) (w : World) (e : Ending) (w' : World) : Prop := ∃ x c, e = .returned (.tuple #[x.val, .bool c]) ∧ AtRef rs i x c ∧ Touch [] w w'
set_option maxHeartbeats 2000000 in
theorem At_ref (w : World) (a : Option Addr) (cap : Nat) (rs : List ME) (i : Int) (he : EntsAt w a rs) : Calls Try.prog 73 #[.agg #[.slice a rs.length cap], .int .i64 i] w (AtToldR rs i w) := by
  have hbe := build_ent
  simp only [ent_eq, ME.zero, MT.zero, MT.kind, MT.num, MT.addr, MT.parts, MT.cap, List.length_nil] at hbe
  by_cases hin : 0 ≤ i ∧ i < (rs.length : Int)
  · obtain ⟨k, rfl⟩ := Int.eq_ofNat_of_zero_le hin.1
    have hk : k < rs.length := by omega
    have hk1 : ¬ (k : Int) < 0 := by omega
    have hk2 : ¬ (rs.length : Int) ≤ (k : Int) := by omega
    have hk3 : ¬ rs.length ≤ k := by omega
    have hk4 : (k : Int) < (rs.length : Int) := by omega
    have hk0 : (0 : Int) ≤ (k : Int) := by omega
    obtain ⟨b, o, rfl, hbb, p0, p1, p2, p3, p4, p5, p6⟩ := he k hk
    have HXJ : Hid (rs[k]? = some rs[k]) := by unfold Hid; simp [hk]
    generalize rs[k] = x at p0 p1 p2 p3 p4 p5 p6 HXJ
    have HY1 : Hid (EntAt w b (o + k * 7) x) := ⟨p0, p1, p2, p3, p4, p5, p6⟩
    clear he hin p0 p1 p2 p3 p4 p5 p6
    go_enter Try.func73, Try.ntmps73
    go_upto_region 1 with fail
    refine wp_name ?_
    intro w1 hw1
    have HL := Lib.hid ((Led.nil' w).al2 hw1)
    have HTT := Lib.hid HL.out.tch
    simp only [List.nil_append, List.cons_append] at HL
    obtain ⟨b4, hb4⟩ : ∃ b, w.heap.size + 1 = b := ⟨_, rfl⟩
    rw [hb4] at HL ⊢
    obtain ⟨b2, hb2⟩ : ∃ b, w.heap.size = b := ⟨_, rfl⟩
    rw [hb2] at HL ⊢
    clear hw1 hb4 hb2
    obtain ⟨q0, fq, zq, _, _⟩ := HL.out.c1 0 rfl
    obtain ⟨_, _, _, _, _, _, _, _, zr, _, _⟩ := HL.out.c7 1 rfl
    obtain ⟨p0, p1, p2, p3, p4, p5, p6⟩ := HY1.out.touch HTT.out
    have zb : b < w1.heap.size := Nat.lt_of_lt_of_le hbb HTT.out.size
    go_wp2
    have HL5 := Lib.hid (HL.out.setEnt 1 rfl x.sync x.thread x.branch x.flag x.v.kind x.v.num (.slice x.v.addr x.v.parts.length x.v.cap))
    simp only [List.set_cons_zero, List.set_cons_succ] at HL5
    obtain ⟨s0, s1, s2, s3, s4, s5, s6, _⟩ := HL5.out.c7 1 rfl
    refine bodyPost_ret (v := .tuple #[x.val, .bool true]) (by simp [results, Try.results73, go_sem, s0, s1, s2, s3, s4, s5, s6, ent_eq]) rfl ?_
    exact ⟨x, true, rfl, .inl ⟨rfl, by omega, HXJ.out⟩, HL5.out.tch⟩
  · have HIN := Lib.hid hin
    have hor : i < 0 ∨ (rs.length : Int) ≤ i := by omega
    clear hin he
    rcases hor with hi | hi
    all_goals
      go_enter Try.func73, Try.ntmps73
      go_upto_region 1 with fail
      refine wp_name ?_
      intro w1 hw1
      have HL := Lib.hid ((Led.nil' w).al2 hw1)
      have HTT := Lib.hid HL.out.tch
      simp only [List.nil_append, List.cons_append] at HL
      obtain ⟨b4, hb4⟩ : ∃ b, w.heap.size + 1 = b := ⟨_, rfl⟩
      rw [hb4] at HL ⊢
      obtain ⟨b2, hb2⟩ : ∃ b, w.heap.size = b := ⟨_, rfl⟩
      rw [hb2] at HL ⊢
      clear hw1 hb4 hb2
      obtain ⟨q0, fq, zq, _, _⟩ := HL.out.c1 0 rfl
      obtain ⟨_, _, _, _, _, _, _, _, zr, _, _⟩ := HL.out.c7 1 rfl
      go_wp2
      have HL5 := Lib.hid (HL.out.setEnt 1 rfl 0 0 0 0 0 0 (.slice none 0 0))
      simp only [List.set_cons_zero, List.set_cons_succ] at HL5
      obtain ⟨s0, s1, s2, s3, s4, s5, s6, _⟩ := HL5.out.c7 1 rfl
      refine bodyPost_ret (v := .tuple #[ME.zero.val, .bool false]) (by simp [results, Try.results73, go_sem, s0, s1, s2, s3, s4, s5, s6, ent_eq, ME.zero, MT.zero, MT.kind, MT.num, MT.addr, MT.parts, MT.cap]) rfl ?_
      exact ⟨ME.zero, false, rfl, .inr ⟨rfl, HIN.out, rfl⟩, HL5.out.tch⟩
set_option maxHeartbeats 2000000 in
theorem Find_ref (w : World) (a : Option Addr) (cap : Nat) (rs : List ME) (z : Int) (he : EntsAt w a rs) (hlen : rs.length ≤ 1048576) : Calls Try.prog 75 #[.agg #[.slice a rs.length cap], .int .i64 z] w (IdxTold (fun e => e.sync = z) (rs.map ME.plain) 0 w) := by
  have HE := Lib.hid he
  clear he
  go_enter Try.func75, Try.ntmps75
  go_wp2_with fail
  refine wp_name ?_
  intro w1 hw1
  have HL1 := Lib.hid ((Led.nil' w).al1 hw1)
  simp only [List.nil_append, List.cons_append] at HL1
  obtain ⟨b2, hb2⟩ : ∃ b, w.heap.size = b := ⟨_, rfl⟩
  rw [hb2] at HL1 ⊢
  clear hb2 hw1
  obtain ⟨q0, fq, zq, _, _⟩ := HL1.out.c1 0 rfl
  go_loopw [5] (fun i wr => ∃ j : Nat, i = .int .i64 (j : Int) ∧ j ≤ rs.length ∧ Hid (∀ i (h : i < (rs.map ME.plain).length), i < j → (rs.map ME.plain)[i].sync ≠ z) ∧ Hid (Led [] w wr [box b2 54 #[.slice a rs.length cap]])) (fun i _ => rs.length - (intOf i).toNat)
  case atStart => exact ⟨0, rfl, Nat.zero_le _, by unfold Hid; intro i _ h; omega, HL1⟩
  case round =>
    obtain ⟨j, rfl, hj, HD, HW⟩ := hrel
    clear q0 fq zq HL1
    obtain ⟨q0, fq, zq, _, _⟩ := HW.out.c1 0 rfl
    have hj0 : (0 : Int) ≤ (j : Int) := by omega
    by_cases hjl : j < rs.length
    · have hjl' : (j : Int) < (rs.length : Int) := by omega
      obtain ⟨b, o, rfl, hb, p0, p1, p2, p3, p4, p5, p6⟩ := (HE.out.touch HW.out.tch) j hjl
      have HXJ : Hid ((rs.map ME.plain)[j]'(by simpa using hjl) = rs[j].plain) := by unfold Hid; simp
      generalize rs[j] = x at p0 p1 p2 p3 p4 p5 p6 HXJ
      by_cases hs : x.sync = z
      · subst hs
        go_wp2
        go_ret
        exact ⟨(j : Int), rfl, .inr ⟨j, by simpa using hjl, rfl, by omega, by rw [HXJ.out]; rfl, fun i h _ h2 => HD.out i h h2⟩, HW.out.tch⟩
      · go_wp2
        go_roundw
        case rel =>
          refine ⟨j + 1, by go_num, by omega, ?_, HW⟩
          unfold Hid
          intro i h h1
          by_cases hij : i = j
          · subst hij
            rw [HXJ.out]
            exact hs
          · exact HD.out i h (by omega)
        case measure => simp [intOf]; omega
    · have hjl' : ¬ (j : Int) < (rs.length : Int) := by omega
      go_wp2
      go_ret
      exact ⟨-1, rfl, .inl ⟨rfl, fun i h _ => HD.out i h (by simp at h; omega)⟩, HW.out.tch⟩
set_option maxHeartbeats 2000000 in
theorem Next_ref (w : World) (a : Option Addr) (cap : Nat) (rs : List ME) (fr z : Int) (he : EntsAt w a rs) (hlen : rs.length ≤ 1048576) : Calls Try.prog 74 #[.agg #[.slice a rs.length cap], .int .i64 fr, .int .i64 z] w (NextTold (fun e => e.thread ≠ z) (rs.map ME.plain) fr w) := by
  have hmx : ∃ f0 : Nat, max 0 fr = (f0 : Int) ∧ (∀ j : Nat, fr ≤ (j : Int) ↔ f0 ≤ j) := ⟨(max 0 fr).toNat, by omega, fun j => by omega⟩
  obtain ⟨f0, hf0, hf1⟩ := hmx
  have HF := Lib.hid hf1
  clear hf1
  by_cases hfr : fr ≤ 0
  all_goals
    have HE := Lib.hid he
    clear he
    go_enter Try.func74, Try.ntmps74
    go_wp2_with fail
    refine wp_name ?_
    intro w1 hw1
    have HL1 := Lib.hid ((Led.nil' w).al1 hw1)
    simp only [List.nil_append, List.cons_append] at HL1
    obtain ⟨b2, hb2⟩ : ∃ b, w.heap.size = b := ⟨_, rfl⟩
    rw [hb2] at HL1 ⊢
    clear hb2 hw1
    obtain ⟨q0, fq, zq, _, _⟩ := HL1.out.c1 0 rfl

    go_loopw [8] (fun i wr => ∃ j : Nat, i = .int .i64 (j : Int) ∧ f0 ≤ j ∧ Hid (∀ i (h : i < (rs.map ME.plain).length), f0 ≤ i → i < j → ¬ (rs.map ME.plain)[i].thread ≠ z) ∧ Hid (Led [] w wr [box b2 54 #[.slice a rs.length cap]])) (fun i _ => rs.length - (intOf i).toNat)
    case atStart => exact ⟨f0, by congr 1; omega, Nat.le_refl _, by unfold Hid; intro i _ h1 h2; omega, HL1⟩
    case round =>
      obtain ⟨j, rfl, hjf, HD, HW⟩ := hrel
      clear q0 fq zq HL1
      obtain ⟨q0, fq, zq, _, _⟩ := HW.out.c1 0 rfl
      have hj0 : (0 : Int) ≤ (j : Int) := by omega
      by_cases hjl : j < rs.length
      · have hjl' : (j : Int) < (rs.length : Int) := by omega
        obtain ⟨b, o, rfl, hb, p0, p1, p2, p3, p4, p5, p6⟩ := (HE.out.touch HW.out.tch) j hjl
        have HXJ : Hid ((rs.map ME.plain)[j]'(by simpa using hjl) = rs[j].plain) := by unfold Hid; simp
        generalize rs[j] = x at p0 p1 p2 p3 p4 p5 p6 HXJ
        by_cases hs : x.thread = z
        · subst hs
          go_wp2
          go_roundw
          case rel =>
            refine ⟨j + 1, by go_num, by omega, ?_, HW⟩
            unfold Hid
            intro i h h1 h2
            by_cases hij : i = j
            · subst hij
              rw [HXJ.out]
              exact fun hc => hc rfl
            · exact HD.out i h h1 (by omega)
          case measure => simp [intOf]; omega
        · go_wp2
          go_ret2
          exact ⟨(j : Int), true, rfl, ⟨(j : Int), .inr ⟨j, by simpa using hjl, rfl, (HF.out j).2 hjf, by rw [HXJ.out]; exact hs, fun i h h1 h2 => HD.out i h ((HF.out i).1 h1) h2⟩, by omega, by simp⟩, HW.out.tch⟩
      · have hjl' : ¬ (j : Int) < (rs.length : Int) := by omega
        go_wp2
        go_ret2
        exact ⟨0, false, rfl, ⟨-1, .inl ⟨rfl, fun i h h1 => HD.out i h ((HF.out i).1 h1) (by simp at h; omega)⟩, by omega, by simp⟩, HW.out.tch⟩
end Go.Proofs.Ytihmbgdkllmkaaa

/-
  Layer 13: copies, Copy, All (queue.go).
-/
namespace Go.Proofs.Ytihmbgdkllmkaaa
open Go.RowKit Go.Shelf
set_option maxRecDepth 100000
set_option linter.unusedVariables false
set_option linter.unusedSimpArgs false

def entZ (m : Nat) : Array Value := madeCells #[.int .i64 0, .int .i64 0, .int .i64 0, .int .i64 0, .int .i64 0, .int .i64 0, .slice none 0 0] (m * 7)
theorem entZ_size (m : Nat) : (entZ m).size = m * 7 := by simp [entZ, madeCells]
theorem made_ents (m : Nat) (hm : m ≤ 1048576) (W : World) : (Instr.makeSlice 32 (.int .i64 0) (.int .i64 (m : Int))).run Try.prog W =
    .ok (.slice (some ⟨W.heap.size, 0, none⟩) 0 m) (W.alloc (.cells (entZ m) 27)) := by
  obtain ⟨i0, hi, iz0, iz1, iz2⟩ := info_parts info_ent
  have hr := run_make (P := Try.prog) W 32 27 i0 _ Try.underlying32 hi iz0 .i64 .i64 0 m (by omega) (by omega) (by rw [iz2]; omega) (by omega)
  rw [iz1] at hr
  simpa [Value.cells, entZ] using hr
theorem Led.makeEnts {T : List Nat} {w0 w : World} {l : List Thing} (h : Led T w0 w l) (m : Nat) (hm : m ≤ 1048576) {w' : World} (e : w.alloc (.cells (entZ m) 27) = w') : Led T w0 w' (l ++ [rowT 27 7 (.slice (some ⟨w.heap.size, 0, none⟩) 0 m) 0 []]) :=
  e ▸ h.new (t' := rowT 27 7 (.slice (some ⟨w.heap.size, 0, none⟩) 0 m) 0 []) ⟨rfl, by simp, .inr ⟨w.heap.size, m, entZ m, rfl, heap_alloc_new w _, Nat.zero_le _, by simp only [maxLen]; omega, by rw [entZ_size]; exact Nat.le_refl _, by simp⟩⟩ ⟨(Touch.refl [] w).alloc _, fun k hk => .inr (by simp [sb, Value.ownBlock] at hk; omega)⟩

/-- Copies of entries. -/
def Copied (es : List ME) (w : World) (e : Ending) (w' : World) : Prop := ∃ a cap ys, e = .returned (.slice a es.length cap) ∧ ys.map ME.plain = es.map ME.plain ∧ Led [] w w' [rowT 27 7 (.slice a es.length cap) es.length (entCells ys), valsT (ys.map ME.v)]
set_option maxHeartbeats 4000000 in
theorem copies_q (w : World) (a : Option Addr) (cap : Nat) (es : List ME) (he : EntsAt w a es) (hin : ∀ e ∈ es, e.v.In w ∧ e.v.nodes ≤ 256) (hlen : es.length ≤ 1048576) : Calls Try.prog 68 #[.slice a es.length cap] w (Copied es w) := by
  have HE := Lib.hid he
  have HIN := Lib.hid hin
  clear he hin
  have hmk := made_ents es.length hlen
  obtain ⟨i0, hi0, iz0, iz1, iz2⟩ := info_parts info_ent
  go_enter Try.func68, Try.ntmps68
  go_wp2_with fail
  refine wp_name ?_
  intro w1 hw1
  have HL1 := Lib.hid ((Led.nil' w).makeEnts es.length hlen hw1).vals0
  simp only [List.nil_append, List.cons_append] at HL1
  clear hw1
  go_loopw [3, 11] (fun x i wr => ∃ (j : Nat) (ys : List ME) (ra : Option Addr) (rc : Nat), j ≤ es.length ∧ i = .int .i64 (j : Int) ∧ x = .slice ra j rc ∧ ys.length = j ∧ Hid (ys.map ME.plain = (es.take j).map ME.plain) ∧
    Hid (Led [] w wr [rowT 27 7 (.slice ra j rc) j (entCells ys), valsT (ys.map ME.v)])) (fun _ i _ => es.length - (intOf i).toNat)
  case atStart => exact ⟨0, [], _, _, Nat.zero_le _, rfl, rfl, rfl, by unfold Hid; simp, HL1⟩
  case round =>
    obtain ⟨j, ys, ra, rc, hj, rfl, rfl, hyl, HY, HK⟩ := hrel
    clear HL1
    have hj0 : (0 : Int) ≤ (j : Int) := by omega
    by_cases hjl : j < es.length
    · have hjl' : (j : Int) < (es.length : Int) := by omega
      obtain ⟨b, o, rfl, hb, p0, p1, p2, p3, p4, p5, p6⟩ := (HE.out.touch HK.out.tch) j hjl
      have HI := Lib.hid (HIN.out _ (List.getElem_mem hjl))
      have HTS : Hid ((es.take (j + 1)).map ME.plain = (es.take j).map ME.plain ++ [es[j].plain]) := by
        unfold Hid
        rw [List.take_add_one, List.getElem?_eq_getElem hjl, Option.toList_some, List.map_append]
        rfl
      generalize es[j] = x at p0 p1 p2 p3 p4 p5 p6 HI HTS
      go_wp2_with fail
      refine wp_calls_name ?_
      intro w2 hw2
      have HT2 : Hid (Touch [] wr w2) := hw2 ▸ (Touch.refl [] wr).alloc _
      have HL2 := Lib.hid (HK.out.touch HT2.out)
      clear hw2 p0 p1 p2 p3 p4 p5 p6 hb
      refine (copyEntry_q x w2 (HI.out.1.touch0 (HK.out.tch.trans' HT2.out)) HI.out.2).mono ?_
      rintro e w4 ⟨x', rfl, hpl, hxin, hnew, ht⟩
      have HL4 := Lib.hid (HL2.out.valsNew (vs := [x'.v]) ht (by simpa using hxin) (by simpa using hnew))
      simp only [List.nil_append, List.cons_append] at HL4
      have HPL := Lib.hid hpl
      clear hpl hxin hnew ht HL2
      simp only [ent_eq]
      go_wp2_with (at_builtin; go_must (refine wpList_append_S _ rfl (.tmp 15) (.tmp 18) 32 rfl 27 i0 _ 7 72 Try.underlying32 hi0 iz0 iz1 iz2 rfl (by decide) (.slice ra j rc) j (entCells ys) rfl ((HL4.out.alloc_ _).rowSAt 0 rfl) (some ⟨w4.heap.size, 0, none⟩) 1 1 x'.cells rfl rfl (.inr ⟨_, rfl, World.news_of_block (heap_alloc_new w4 _)⟩) (by have := ents_one [x']; simpa [entCells] using this) (by simp only [maxLen]; omega) (by omega) ?_); intro a5 c5 w5 hown hgrow hat; refine Hid.out ?_)
      have HL5 : Hid (Led [] w w5 [rowT 27 7 (.slice a5 (j + 1) c5) (j + 1) (entCells (ys ++ [x'])), valsT ((ys ++ [x']).map ME.v)]) := by
        have h := (HL4.out.alloc_ _).grownS 0 rfl hgrow hown hat
        simp only [List.set_cons_succ, List.set_cons_zero] at h
        rw [entCells_append, List.map_append]
        exact Led.valsJoin (l := [_]) h
      clear hown hgrow hat HL4
      refine Lib.hid ?_
      go_wp2
      go_roundw
      case rel => exact ⟨j + 1, ys ++ [x'], a5, c5, by omega, by go_num, rfl, by simp [hyl], by unfold Hid; rw [List.map_append, HY.out, HTS.out, ← HPL.out]; rfl, HL5⟩
      case measure => simp [intOf]; omega
    · have hjl' : ¬ (j : Int) < (es.length : Int) := by omega
      obtain rfl : j = es.length := by omega
      go_wp2
      go_ret
      exact ⟨ra, rc, ys, rfl, by have := HY.out; rwa [List.take_length] at this, HK.out⟩

theorem build_list2 (v : Option Addr) (n c : Nat) (w : World) (h : Try.prog.built 65 [(0, .bool true), (1, .slice v n c)] = some #[.bool true, .slice v n c]) : (Instr.build 65 #[(0, .bool true), (1, .slice v n c)]).run Try.prog w = .ok (.agg #[.bool true, .slice v n c]) w := run_build w 65 _ _ h
/-- Copy: another queue. -/
def CopiedQ (es : List ME) (w : World) (e : Ending) (w' : World) : Prop := ∃ g ys, e = .returned (.pointer (some ⟨g, 0, none⟩)) ∧ ys.map ME.plain = es.map ME.plain ∧ Led [] w w' [queueT g ys, valsT (ys.map ME.v)]
set_option maxHeartbeats 1000000 in
theorem Copy_q (w : World) (g : Nat) (es : List ME) (h : QAt w g es) (hin : ∀ e ∈ es, e.v.In w ∧ e.v.nodes ≤ 256) (hlen : es.length ≤ 1048576) : Calls Try.prog 28 #[.pointer (some ⟨g, 0, none⟩)] w (CopiedQ es w) := by
  obtain ⟨a, cap, hb, hc1, hc2, hr⟩ := h
  have HC := Lib.hid (copies_q w a cap es (ents_of_rowS hr) hin hlen)
  have q0 := hb.cell 0
  have q1 := hb.cell 1
  simp at q0 q1
  clear hb hr hin
  go_enter Try.func28, Try.ntmps28
  go_wp2_with fail
  refine (none_no g w q0).mono ?_
  rintro e w' ⟨rfl, rfl⟩
  go_wp2_with fail
  refine HC.out.mono ?_
  rintro e w2 ⟨a2, c2, ys, rfl, hpl, hL⟩
  have HL := Lib.hid hL
  have HPL := Lib.hid hpl
  clear hL hpl
  have hb1 : ∀ W, (Instr.build 65 #[(0, .bool true), (1, .slice a2 es.length c2)]).run Try.prog W = .ok (.agg #[.bool true, .slice a2 es.length c2]) W := fun W => build_list2 _ _ _ W (by kernel_rfl)
  have hb2 : ∀ W, (Instr.build 67 #[(0, .agg #[.bool true, .slice a2 es.length c2])]).run Try.prog W = .ok (.agg #[.bool true, .slice a2 es.length c2]) W := fun W => build_queue _ _ W (by kernel_rfl)
  go_wp2
  go_ret
  refine ⟨w2.heap.size, ys, rfl, HPL.out, ?_⟩
  have hyl : ys.length = es.length := by have := congrArg List.length HPL.out; simpa using this
  have h := HL.out.alloc 67 #[.bool true, .slice a2 es.length c2]
  have h2 := h.sel [2, 0, 1] (l' := [_, _, _]) rfl (by decide)
  exact h2.shutP hyl

/-- What All makes: a box with a slice of copies. -/
def allT (bx : Nat) (v : Value) (ys : List ME) : Thing where
  holds w fp := fp = bx :: (sb v ++ MT.blocksAll (ys.map ME.v)) ∧ Blk w bx 32 #[v] ∧ rowS w 27 7 v ys.length (entCells ys) ∧ ∀ y ∈ ys, y.v.In w
  keep := fun ⟨h1, h2, h3, h4⟩ he => ⟨h1, h2.keep (he bx (by simp [h1])), rowS_keep h3 (fun k hk => he k (by simp [h1, hk])), fun y hy => (h4 y hy).keep (fun k hk => he k (by
    rw [h1]
    refine List.mem_cons_of_mem _ (List.mem_append_right _ (MT.blocksAll_mem.2 ⟨y.v, List.mem_map.2 ⟨y, hy, rfl⟩, hk⟩))))⟩
  lt := fun ⟨h1, h2, h3, h4⟩ k hk => by
    subst h1
    rcases List.mem_cons.1 hk with rfl | hk
    · exact h2.lt
    · rcases List.mem_append.1 hk with hk | hk
      · exact rowS_lt h3 k hk
      · obtain ⟨t, ht, hk⟩ := MT.blocksAll_mem.1 hk
        obtain ⟨y, hy, rfl⟩ := List.mem_map.1 ht
        exact (h4 y hy).lt k hk
def copiesT (v : Value) (ys : List ME) : Thing where
  holds w fp := fp = sb v ++ MT.blocksAll (ys.map ME.v) ∧ rowS w 27 7 v ys.length (entCells ys) ∧ ∀ t ∈ ys.map ME.v, t.In w
  keep := fun ⟨a, b, c⟩ he => ⟨a, rowS_keep b (fun k hk => he k (by simp [a, hk])), fun t ht => (c t ht).keep (fun k hk => he k (by rw [a]; exact List.mem_append_right _ (MT.blocksAll_mem.2 ⟨t, ht, hk⟩)))⟩
  lt := fun ⟨a, b, c⟩ k hk => by
    subst a
    rcases List.mem_append.1 hk with hk | hk
    · exact rowS_lt b k hk
    · obtain ⟨t, ht, hk⟩ := MT.blocksAll_mem.1 hk
      exact (c t ht).lt k hk
theorem Led.shutAll {T : List Nat} {w0 w : World} {l : List Thing} {bx n : Nat} {v : Value} {ys : List ME} (hn : ys.length = n) (h : Led T w0 w (l ++ [Proofs.Ytihmbgdkllmkaaa.box bx 32 #[v], rowT 27 7 v n (entCells ys), valsT (ys.map ME.v)])) : Led T w0 w (l ++ [allT bx v ys]) := by
  subst hn
  have h1 : Led T w0 w ((l ++ [Proofs.Ytihmbgdkllmkaaa.box bx 32 #[v]]) ++ [rowT 27 7 v ys.length (entCells ys), valsT (ys.map ME.v)]) := by simpa using h
  have h2 := h1.merge (t12 := copiesT v ys) (fun f1 f2 ⟨a1, a2⟩ ⟨b1, b2⟩ => ⟨by rw [a1, b1], a2, b2⟩)
  have h3 : Led T w0 w (l ++ [Proofs.Ytihmbgdkllmkaaa.box bx 32 #[v], copiesT v ys]) := by simpa using h2
  exact h3.merge (fun f1 f2 ⟨a1, a2⟩ ⟨b1, b2, b3⟩ => ⟨by rw [a1, b1]; rfl, a2, b2, fun y hy => b3 _ (List.mem_map.2 ⟨y, hy, rfl⟩)⟩)
/-- All: an iterator over copies. -/
def AllTold (es : List ME) (w : World) (e : Ending) (w' : World) : Prop := ∃ bx a cap ys, e = .returned (.func (.func 69) #[] #[.pointer (some ⟨bx, 0, none⟩)]) ∧ ys.map ME.plain = es.map ME.plain ∧ Led [] w w' [allT bx (.slice a ys.length cap) ys]
set_option maxHeartbeats 1000000 in
theorem All_q (w : World) (g : Nat) (es : List ME) (h : QAt w g es) (hin : ∀ e ∈ es, e.v.In w ∧ e.v.nodes ≤ 256) (hlen : es.length ≤ 1048576) : Calls Try.prog 24 #[.pointer (some ⟨g, 0, none⟩)] w (AllTold es w) := by
  have HQA := Lib.hid h
  have HIN := Lib.hid hin
  clear h hin
  go_enter Try.func24, Try.ntmps24
  go_wp2_with fail
  refine wp_calls_name ?_
  intro w1 hw1
  have HL1 := Lib.hid ((Led.nil' w).al1 hw1)
  simp only [List.nil_append, List.cons_append] at HL1
  obtain ⟨b3, hb3⟩ : ∃ b, w.heap.size = b := ⟨_, rfl⟩
  rw [hb3] at HL1 ⊢
  clear hb3 hw1
  obtain ⟨a, cap, hb, hc1, hc2, hr⟩ := HQA.out.touch HL1.out.tch
  have HC := Lib.hid (copies_q w1 a cap es (ents_of_rowS hr) (fun e he => ⟨(HIN.out e he).1.touch0 HL1.out.tch, (HIN.out e he).2⟩) hlen)
  have q0 := hb.cell 0
  have q1 := hb.cell 1
  simp at q0 q1
  clear hb hr
  refine (none_no g w1 q0).mono ?_
  rintro e w' ⟨rfl, rfl⟩
  go_wp2_with fail
  refine HC.out.mono ?_
  rintro e w2 ⟨a2, c2, ys, rfl, hpl, hL⟩
  have HPL := Lib.hid hpl
  have HL2 : Hid (Led [] w w2 [box b3 32 #[.slice none 0 0], rowT 27 7 (.slice a2 es.length c2) es.length (entCells ys), valsT (ys.map ME.v)]) := HL1.out.join hL
  clear hL hpl
  obtain ⟨x0, fx, zx, _, _⟩ := HL2.out.c1 0 rfl
  go_wp2
  go_ret
  refine ⟨b3, a2, c2, ys, rfl, HPL.out, ?_⟩
  have hyl : ys.length = es.length := by have := congrArg List.length HPL.out; simpa using this
  have h := HL2.out.set 0 rfl 0 (.slice a2 es.length c2)
  simp only [List.set_cons_zero, List.setIfInBounds_toArray] at h
  have h2 := Led.shutAll (l := []) hyl h
  rw [hyl]
  exact h2
end Go.Proofs.Ytihmbgdkllmkaaa

/-
  A range over a function, with the ledger between the rounds.
-/
namespace Go.Proofs.Ytihmbgdkllmkaaa
open Go.RowKit Go.Shelf
set_option linter.unusedVariables false

/-- A block that is known whole, whatever it is. -/
def exact1 (b : Nat) (o : Obj) : Thing where
  holds w fp := fp = [b] ∧ w.heap[b]? = some o
  keep := fun ⟨h1, h2⟩ he => ⟨h1, (he b (by simp [h1])).trans h2⟩
  lt := fun ⟨h1, h2⟩ k hk => by subst h1; simp at hk; subst hk; exact (Array.getElem?_eq_some_iff.1 h2).1
/-- The two blocks of a loop. -/
def marks (D : Nat) (o : Obj) : List Thing := [mark D, exact1 (D + 1) o]
def marks1 (D : Nat) : List Thing := [mark D, some1 (D + 1)]

section
variable {T : List Nat} {w0 w w' : World} {l : List Thing} {D : Nat}
theorem Led.sub_end {m : List Thing} (h : Led T w0 w (l ++ m)) : Led T w0 w l := by
  obtain ⟨hb, F, h1, h2⟩ := h
  exact ⟨hb, F, fun i t hi => h1 i t (by rw [List.getElem?_append_left (List.getElem?_eq_some_iff.1 hi).1]; exact hi), fun i j hi hj => h2 i j (by simp; omega) (by simp; omega)⟩
theorem Led.exact_of_some (h : Led T w0 w (l ++ marks1 D)) : ∃ o, Led T w0 w (l ++ marks D o) := by
  have hi : (l ++ marks1 D)[l.length + 1]? = some (some1 (D + 1)) := by simp [marks1]
  obtain ⟨f, ⟨hf, hb⟩, _, hs⟩ := h.step (l.length + 1) hi
  subst hf
  refine ⟨w.heap[D + 1], ?_⟩
  have := hs w (exact1 (D + 1) w.heap[D + 1]) [D + 1] ⟨rfl, Array.getElem?_eq_getElem hb⟩ (Went.refl _ _)
  simpa [marks1, marks, List.set_append] using this
theorem Led.some_of_exact {o : Obj} (h : Led T w0 w (l ++ marks D o)) : Led T w0 w (l ++ marks1 D) := by
  have hi : (l ++ marks D o)[l.length + 1]? = some (exact1 (D + 1) o) := by simp [marks]
  obtain ⟨f, ⟨hf, hb⟩, _, hs⟩ := h.step (l.length + 1) hi
  subst hf
  have := hs w (some1 (D + 1)) [D + 1] ⟨rfl, (Array.getElem?_eq_some_iff.1 hb).1⟩ (Went.refl _ _)
  simpa [marks1, marks, List.set_append] using this
theorem Led.put_exact {o o' : Obj} {m : List Thing} (h : Led T w0 w (l ++ marks D o ++ m)) : Led T w0 (w.putObj (D + 1) o') (l ++ marks D o' ++ m) := by
  have hi : (l ++ marks D o ++ m)[l.length + 1]? = some (exact1 (D + 1) o) := by simp [marks]
  obtain ⟨f, ⟨hf, hb⟩, _, hs⟩ := h.step (l.length + 1) hi
  subst hf
  have := hs (w.putObj (D + 1) o') (exact1 (D + 1) o') [D + 1] ⟨rfl, World.putObj_heap_same (Array.getElem?_eq_some_iff.1 hb).1⟩ ⟨(Touch.refl _ w).putObj (.inr (by simp)) o', fun k hk => .inl hk⟩
  simpa [marks1, marks, List.set_append] using this
theorem Led.put_some {o' : Obj} (h : Led T w0 w (l ++ marks1 D)) : Led T w0 (w.putObj (D + 1) o') (l ++ marks1 D) := by
  obtain ⟨o, ho⟩ := h.exact_of_some
  have := Led.put_exact (m := []) (o' := o') (by simpa using ho)
  simp only [List.append_nil] at this
  exact this.some_of_exact
theorem Led.at_mark {o : Obj} {m : List Thing} (h : Led T w0 w (l ++ marks D o ++ m)) : w.heap[D]? = some (.deferred (some [])) ∧ w.heap[D + 1]? = some o := by
  have h1 : (l ++ marks D o ++ m)[l.length]? = some (Proofs.Ytihmbgdkllmkaaa.mark D) := by simp [marks]
  have h2 : (l ++ marks D o ++ m)[l.length + 1]? = some (exact1 (D + 1) o) := by simp [marks]
  obtain ⟨_, ⟨_, h3⟩, _⟩ := h.get _ h2
  exact ⟨h.mark _ h1, h3⟩
theorem Led.kept {l' : List Thing} {o : Obj} {m m' : List Thing} (h : Led T w0 w (l ++ marks D o ++ m)) (h' : Led T w0 w' (l' ++ marks D o ++ m')) : Kept D w w' := by
  obtain ⟨a, b⟩ := h.at_mark
  obtain ⟨c, d⟩ := h'.at_mark
  exact ⟨c.trans a.symm, d.trans b.symm⟩
end

/-- What a round's body owes: the ledger behind it. X c l': it may leave by the jump c with the things l'. -/
def bodyL (T : List Nat) (w0 : World) (D : Nat) (o : Obj) (l' : List Thing) (X : Code → List Thing → Prop) : Exit → Act → World → Prop
  | .normal, _, W => ∃ m, Led T w0 W (l' ++ marks D o ++ m)
  | .ret, _, W => ∃ lx m, X .ret lx ∧ Led T w0 W (lx ++ marks D o ++ m)
  | .exit id, _, W => ∃ lx m, X (.exit id) lx ∧ Led T w0 W (lx ++ marks D o ++ m)
  | .goto t, _, W => ∃ lx m, X (.goto t) lx ∧ Led T w0 W (lx ++ marks D o ++ m)
  | .panic _, _, _ => False
  | .outgrown, _, _ => False

theorem wp_rangeL {β : Type} {P : Program} {n : Nat} {g : Operand} {ps : Array Tmp} {assign body : Code} {Q : Exit → Act → World → Prop} {a : Act} {w w0 : World} {T : List Nat}
    {gf : Nat} {lb : Array Value} (hg : a.eval g = .func (.func gf) #[] lb) (eg : ∀ args w, (callFunc gf args).run P w = .ok (.enter gf args) w)
    (R : β → List Thing) (X : Code → List Thing → Prop) (Fin : β → Prop) (arg : β → Array Value → β → Prop)
    (hps : ∀ b xs b', arg b xs b' → xs.size = ps.size) (b0 : β) (h0 : Led T w0 w (R b0))
    (hround : ∀ b xs b' W o0, arg b xs b' → Led T w0 W (R b ++ marks w.heap.size o0) →
      assign.wpIn (Fence.wide.inRound (w.heap.size + 1)) (n - 1 - 1) P (Exit.then (fun a1 W1 => ∃ m, Led T w0 W1 (R b ++ marks w.heap.size o0 ++ m) ∧
        ∀ W2 o, Led T w0 W2 (R b ++ marks w.heap.size o ++ m) → body.wpIn (Fence.wide.inRound (w.heap.size + 1)) (n - 1 - 1) P (bodyL T w0 w.heap.size o (R b') X) a1 W2) (fun _ _ _ => False))
        { tmps := (ps.zip xs).foldl (fun t (p, v) => t.setIfInBounds p v) a.tmps, defers := [] } W)
    (hiter : ∀ (J' : β → World → Prop) (Jx' : World → Prop), (∀ b W, J' b W → Led T w0 W (R b ++ marks1 w.heap.size)) →
      (∀ b W b' W', J' b W → Led T w0 W' (R b' ++ marks1 w.heap.size) → Kept w.heap.size W W' → J' b' W') →
      (∀ b xs b' W, arg b xs b' → J' b W → YieldAt Fence.wide (n - 1 - 1) P (w.heap.size + 1) xs W (Told (J' b') Jx')) →
      ∀ W, J' b0 W → CallsIn Fence.wide (n - 1) P gf (#[.func (.yield (w.heap.size + 1)) #[] #[]] ++ lb) W (IterEnd Fin J' Jx'))
    (hdone : ∀ b W, Fin b → Led T w0 W (R b ++ marks1 w.heap.size) → Q .normal { a with defers := { target := .collected w.heap.size, args := #[] } :: a.defers } W)
    (hstop : ∀ c W lx, X c lx → Led T w0 W (lx ++ marks1 w.heap.size) → c.wpIn Fence.wide n P Q { a with defers := { target := .collected w.heap.size, args := #[] } :: a.defers } W) :
    (Code.rangeFunc g ps assign body).wpIn Fence.wide n P Q a w := by
  refine wp_range hg eg (fun b W => Led T w0 W (R b ++ marks1 w.heap.size)) (fun c W => ∃ lx, X c lx ∧ Led T w0 W (lx ++ marks1 w.heap.size)) Fin arg hps (fun b W o h => h.put_some) (fun c W o ⟨lx, hx, h⟩ => ⟨lx, hx, h.put_some⟩) b0 (fun o => h0.loop o) ?_ ?_
    (fun b W hF hj _ _ => hdone b W hF hj) (fun c W ⟨lx, hx, h⟩ _ _ => hstop c W lx hx h)
  · intro b xs b' W harg hj hlt
    obtain ⟨o0, ho⟩ := hj.exact_of_some
    refine wpIn_mono (hround b xs b' W o0 harg ho) ?_
    rintro ex a1 Wa hpost
    cases ex with
    | ret => exact hpost
    | exit id => exact hpost
    | goto t => exact hpost
    | panic ch => exact hpost
    | outgrown => exact hpost
    | normal =>
      obtain ⟨m, hL, hb⟩ := hpost
      refine ⟨Led.kept (m := []) (by simpa using ho) hL, fun o => ?_⟩
      have hL2 := hL.put_exact (o' := o)
      refine wpIn_mono (hb _ o hL2) ?_
      rintro e a3 W3 hp
      cases e with
      | normal => obtain ⟨m3, h3⟩ := hp; exact ⟨hL2.kept h3, h3.sub_end.some_of_exact⟩
      | ret => obtain ⟨lx, m3, hx, h3⟩ := hp; exact ⟨hL2.kept h3, lx, hx, h3.sub_end.some_of_exact⟩
      | exit id => obtain ⟨lx, m3, hx, h3⟩ := hp; exact ⟨hL2.kept h3, lx, hx, h3.sub_end.some_of_exact⟩
      | goto t => obtain ⟨lx, m3, hx, h3⟩ := hp; exact ⟨hL2.kept h3, lx, hx, h3.sub_end.some_of_exact⟩
      | panic ch => exact hp
      | outgrown => exact hp
  · intro J' Jx' hJ hC hCx hY W hW'
    exact hiter J' Jx' (fun b W h => (hJ b W h).1) (fun b W b' W' h1 h2 h3 => hC b W b' W' h1 h2 h3) hY W hW'

/-- A plain fact. -/
def fact (p : Prop) : Thing where
  holds _ fp := fp = [] ∧ p
  keep := fun h _ => h
  lt := fun ⟨h1, _⟩ k hk => by subst h1; simp at hk
section
variable {T : List Nat} {w0 w w' : World} {l : List Thing}
theorem Led.fact (h : Led T w0 w l) (i : Nat) {p : Prop} (hi : l[i]? = some (fact p)) : p := let ⟨_, h, _⟩ := h.get i hi; h.2
theorem Led.addFact (h : Led T w0 w l) {p : Prop} (hp : p) : Led T w0 w (l ++ [Proofs.Ytihmbgdkllmkaaa.fact p]) := h.new (t' := Proofs.Ytihmbgdkllmkaaa.fact p) (f' := []) ⟨rfl, hp⟩ ⟨Touch.refl _ _, by simp⟩
theorem Led.setFact (h : Led T w0 w l) (i : Nat) {p q : Prop} (hi : l[i]? = some (Proofs.Ytihmbgdkllmkaaa.fact p)) (hq : q) : Led T w0 w (l.set i (Proofs.Ytihmbgdkllmkaaa.fact q)) := by
  obtain ⟨f, ⟨hf, _⟩, _, hs⟩ := h.step i hi
  subst hf
  exact hs w (Proofs.Ytihmbgdkllmkaaa.fact q) [] ⟨rfl, hq⟩ (Went.refl _ _)
/-- A mark is come to. -/
theorem Led.shut (h : Led T w0 w l) (i : Nat) {D : Nat} (hi : l[i]? = some (Proofs.Ytihmbgdkllmkaaa.mark D)) : Led T w0 (w.putObj D (.deferred none)) (l.set i (some1 D)) := by
  obtain ⟨f, ⟨hf, hm⟩, _, hs⟩ := h.step i hi
  subst hf
  exact hs _ (some1 D) [D] ⟨rfl, by simpa using (Array.getElem?_eq_some_iff.1 hm).1⟩ ⟨(Touch.refl _ w).putObj (.inr (by simp)) _, fun k hk => .inl hk⟩
theorem Led.head2 {t1 t2 : Thing} {rest : List Thing} (h : Led T w0 w (t1 :: t2 :: rest)) : ∃ rest, Led T w0 w (t1 :: t2 :: rest) := ⟨_, h⟩
end
end Go.Proofs.Ytihmbgdkllmkaaa

/-
  Layer 13: the iterator that All makes (queue.go), and a loop over it.
-/
namespace Go.Proofs.Ytihmbgdkllmkaaa
open Go.RowKit Go.Shelf
set_option maxRecDepth 100000
set_option linter.unusedVariables false
set_option linter.unusedSimpArgs false
attribute [local go_sem] Oper.semAt_some

/-- What lies there of an iterator of All. -/
def AllAt (w : World) (bx : Nat) (a : Option Addr) (cap : Nat) (ys : List ME) : Prop := Blk w bx 32 #[.slice a ys.length cap] ∧ EntsAt w a ys ∧ ∀ y ∈ ys, y.v.In w
theorem Led.allAt {T : List Nat} {w0 w : World} {l : List Thing} {bx : Nat} {a : Option Addr} {cap : Nat} {ys : List ME} (h : Led T w0 w l) (i : Nat) (hi : l[i]? = some (allT bx (.slice a ys.length cap) ys)) : AllAt w bx a cap ys := by
  obtain ⟨f, ⟨_, h2, h3, h4⟩, _⟩ := h.get i hi
  exact ⟨h2, ents_of_rowS h3, h4⟩

theorem callsIn_name {F : Fence} {n : Nat} {P : Program} {f : FuncId} {args : Array Value} {Q : Ending → World → Prop} {W : World} (h : ∀ w2, W = w2 → CallsIn F n P f args w2 Q) : CallsIn F n P f args W Q := h W rfl
set_option maxHeartbeats 2000000 in
theorem all_iter (n l bx : Nat) (a : Option Addr) (cap : Nat) (ys : List ME) (hL : ys.length ≤ 1048576) (hnn : ∀ y ∈ ys, y.v.nodes ≤ 256) (J : Nat → World → Prop) (J1 : Nat → ME → World → Prop) (Jx : World → Prop)
    (hmem : ∀ k W, J k W → AllAt W bx a cap ys)
    (hmv : ∀ k W W' x, J k W → Touch [] W W' → x.v.In W' → (∀ b ∈ x.v.blocks, W.heap.size ≤ b) → (ys.map ME.plain)[k]? = some x.plain → J1 k x W')
    (hY : ∀ (k : Nat) (x : ME) (W : World), k < ys.length → J1 k x W → YieldAt Fence.wide (n - 1) Try.prog l #[.int .i64 (k : Int), x.val] W (Told (J (k + 1)) Jx))
    (W : World) (h0 : J 0 W) :
    CallsIn Fence.wide n Try.prog 69 #[.func (.yield l) #[] #[], .pointer (some ⟨bx, 0, none⟩)] W (IterEnd (fun k => k = ys.length) J Jx) := by
  refine callsIn_of_wp Try.func69 rfl trivial ?_ rfl
  simp only [Try.ntmps69, List.size_toArray, List.length_cons, List.length_nil, Nat.reduceAdd, Nat.reduceSub, Array.replicate_succ, Array.replicate_zero, List.push_toArray, List.append_toArray, List.nil_append, List.cons_append]
  have HM := Lib.hid hmem
  have HY := Lib.hid hY
  have HMV := Lib.hid hmv
  have HNN := Lib.hid hnn
  obtain ⟨b1, b2, b3⟩ := hmem 0 W h0
  have q1 := b1.cell 0
  simp at q1
  clear hmem hY hmv hnn b1 b2 b3
  gi_wp2
  gi_loopw [7] (fun i wr => ∃ k : Nat, i = .int .i64 (k : Int) ∧ J k wr ∧ k ≤ ys.length) (fun i _ => ys.length - (intOf i).toNat)
  case atStart => exact ⟨0, rfl, h0, Nat.zero_le _⟩
  case round =>
    obtain ⟨k, rfl, hj, hk⟩ := hrel
    have hk0 : (0 : Int) ≤ (k : Int) := by omega
    by_cases hlt : k < ys.length
    · have hlt' : (k : Int) < (ys.length : Int) := by omega
      obtain ⟨b1, b2, b3⟩ := HM.out _ _ hj
      obtain ⟨b, o, rfl, hb, p0, p1, p2, p3, p4, p5, p6⟩ := b2 k hlt
      have HI : Hid (ys[k].v.In wr ∧ ys[k].v.nodes ≤ 256) := ⟨b3 _ (List.getElem_mem hlt), HNN.out _ (List.getElem_mem hlt)⟩
      have HXJ : Hid ((ys.map ME.plain)[k]? = some ys[k].plain) := by unfold Hid; simp [hlt]
      generalize ys[k] = x at p0 p1 p2 p3 p4 p5 p6 HI HXJ
      have HJ := Lib.hid hj
      clear b1 b2 b3 hj
      gi_wp2_with fail
      refine ⟨trivial, nodepth, ?_⟩
      refine callsIn_name ?_
      intro w2 hw2
      have HT2 : Hid (Touch [] wr w2) := hw2 ▸ (Touch.refl [] wr).alloc _
      clear hw2 p0 p1 p2 p3 p4 p5 p6 hb
      refine (callsIn_wide.2 (copyEntry_q x w2 (HI.out.1.touch0 HT2.out) HI.out.2)).mono ?_
      rintro e w4 ⟨x', rfl, hpl, hxin, hnew, ht⟩
      have hy0 := HY.out k x' w4 hlt (HMV.out k wr w4 x' HJ.out (HT2.out.trans' ht) hxin (fun b hb => Nat.le_trans HT2.out.size (hnew b hb)) (by rw [hpl]; exact HXJ.out))
      clear hpl hxin hnew ht
      simp only [ent_eq] at hy0 ⊢
      obtain ⟨fn, tmps, assign, body, hy, hR⟩ := hy0
      have HR := Lib.hid hR
      clear hR
      gi_wp2_with fail
      refine ⟨nodepth, HR.out.mono ?_⟩
      rintro e W2 (⟨rfl, hj2⟩ | ⟨rfl, hj2⟩)
      · have HJ2 := Lib.hid hj2
        clear hj2 hy
        gi_wp2
        go_roundw
        case rel => exact ⟨k + 1, by go_num, HJ2.out, hlt⟩
        case measure => simp [intOf]; omega
      · have HJ2 := Lib.hid hj2
        clear hj2 hy
        gi_wp2
        refine bodyPost_ret (results_none rfl _ _ _) rfl ?_
        exact ⟨⟨_, rfl⟩, .inr HJ2.out⟩
    · obtain rfl : k = ys.length := by omega
      have hlt' : ¬ ((ys.length : Nat) : Int) < (ys.length : Int) := by omega
      have HJ := Lib.hid hj
      clear hj
      gi_wp2
      go_end0
      exact ⟨⟨_, rfl⟩, .inl ⟨_, rfl, HJ.out⟩⟩

/-- A loop over what All made: R k: what lies there when k entries have come. -/
theorem range_allL {n : Nat} {gop : Operand} {ps : Array Tmp} {assign body : Code} {Q : Exit → Act → World → Prop} {a : Act} {w w0 : World} {T : List Nat} {bx : Nat} {ra : Option Addr} {rc : Nat} {ys : List ME}
    (hg : a.eval gop = .func (.func 69) #[] #[.pointer (some ⟨bx, 0, none⟩)])
    (hps : ps.size = 2) (hL : ys.length ≤ 1048576) (hnn : ∀ y ∈ ys, y.v.nodes ≤ 256) (R : Nat → List Thing) (X : Code → List Thing → Prop) (i : Nat) (hi : ∀ k, (R k)[i]? = some (allT bx (.slice ra ys.length rc) ys)) (h0 : Led T w0 w (R 0))
    (hround : ∀ (k : Nat) (x : ME) (W : World) (o0 : Obj), k < ys.length → (ys.map ME.plain)[k]? = some x.plain → Led T w0 W (R k ++ [valsT [x.v]] ++ marks w.heap.size o0) →
      assign.wpIn (Fence.wide.inRound (w.heap.size + 1)) (n - 1 - 1) Try.prog (Exit.then (fun a1 W1 => ∃ m, Led T w0 W1 (R k ++ [valsT [x.v]] ++ marks w.heap.size o0 ++ m) ∧
        ∀ W2 o, Led T w0 W2 (R k ++ [valsT [x.v]] ++ marks w.heap.size o ++ m) → body.wpIn (Fence.wide.inRound (w.heap.size + 1)) (n - 1 - 1) Try.prog (bodyL T w0 w.heap.size o (R (k + 1)) X) a1 W2) (fun _ _ _ => False))
        { tmps := (ps.zip #[.int .i64 (k : Int), x.val]).foldl (fun t (p, v) => t.setIfInBounds p v) a.tmps, defers := [] } W)
    (hdone : ∀ W, Led T w0 W (R ys.length ++ marks1 w.heap.size) → Q .normal { a with defers := { target := .collected w.heap.size, args := #[] } :: a.defers } W)
    (hstop : ∀ c W lx, X c lx → Led T w0 W (lx ++ marks1 w.heap.size) → c.wpIn Fence.wide n Try.prog Q { a with defers := { target := .collected w.heap.size, args := #[] } :: a.defers } W) :
    (Code.rangeFunc gop ps assign body).wpIn Fence.wide n Try.prog Q a w := by
  refine wp_rangeL (β := Nat × Option ME) hg (enters_of Try.func69 (by kernel_rfl) rfl) (fun b => match b.2 with | none => R b.1 | some x => R b.1 ++ [valsT [x.v]]) X (fun b => b = (ys.length, none))
    (fun b xs b' => ∃ x, b.2 = some x ∧ b.1 < ys.length ∧ (ys.map ME.plain)[b.1]? = some x.plain ∧ xs = #[.int .i64 (b.1 : Int), x.val] ∧ b' = (b.1 + 1, none))
    (fun b xs b' ⟨_, _, _, _, hx, _⟩ => by rw [hx, hps]; rfl) (0, none) h0 ?_ ?_ (fun b W hF hj => by subst hF; exact hdone W hj) hstop
  · rintro ⟨k, ox⟩ xs b' W o0 ⟨x, rfl, hk, hp, rfl, rfl⟩ hj
    exact hround k x W o0 hk hp hj
  · intro J' Jx' hJ hC hY W hW'
    have hmk : ∀ k W, J' (k, none) W → w.heap.size + 1 < W.heap.size := fun k W h => by
      obtain ⟨o', h2⟩ := (hJ (k, none) W h).exact_of_some
      exact (Array.getElem?_eq_some_iff.1 (Led.at_mark (m := []) (by simpa using h2)).2).1
    refine CallsIn.mono (all_iter (n - 1) (w.heap.size + 1) bx ra rc ys hL hnn (fun k W => J' (k, none) W) (fun k x W => J' (k, some x) W ∧ (ys.map ME.plain)[k]? = some x.plain) Jx' (fun k W h => (hJ _ W h).allAt i (by rw [List.getElem?_append_left (List.getElem?_eq_some_iff.1 (hi k)).1]; exact hi k)) ?_ ?_ W hW') ?_
    · intro k W W' x h ht hin hb hp
      refine ⟨hC (k, none) W (k, some x) W' h ?_ ?_, hp⟩
      · have h1 := (hJ _ W h).valsNew (vs := [x.v]) ht (by simpa using hin) (by simpa using hb)
        exact h1.swapEnd
      · have hlt := hmk k W h
        exact ⟨ht.block _ (by omega) (by simp), ht.block _ hlt (by simp)⟩
    · rintro k x W hk ⟨h, hp⟩
      exact hY (k, some x) _ (k + 1, none) W ⟨x, rfl, hk, hp, rfl, rfl⟩ h
    · rintro e W ⟨hv, ⟨k, hk, hj⟩ | hx⟩
      · exact ⟨hv, .inl ⟨(k, none), by rw [hk], hj⟩⟩
      · exact ⟨hv, .inr hx⟩
end Go.Proofs.Ytihmbgdkllmkaaa

/-
  A map of integers to true, as a set; clear of the end of a row. No program is in sight.
-/
namespace Go.Proofs.Ytihmbgdkllmkaaa
open Go.RowKit
set_option linter.unusedVariables false
set_option linter.unusedSimpArgs false

/-- The entries are the integers xs, each with true. -/
def IsSet (es : List MapEntry) (xs : List Int) : Prop := es.map (fun e => (e.key, e.val)) = xs.map (fun x => (Value.int .i64 x, Value.bool true))
theorem IsSet.nil : IsSet [] [] := rfl
theorem IsSet.cons {e : MapEntry} {es : List MapEntry} {xs : List Int} (h : IsSet (e :: es) xs) : ∃ x r, xs = x :: r ∧ e.key = .int .i64 x ∧ e.val = .bool true ∧ IsSet es r := by
  cases xs with
  | nil => simp [IsSet] at h
  | cons x r => simp [IsSet] at h; exact ⟨x, r, rfl, h.1.1, h.1.2, h.2⟩
theorem find_set (y : Int) : ∀ (es : List MapEntry) (xs : List Int) (i : Nat), IsSet es xs → (y ∉ xs ∧ Instr.findNow (.int .i64) (.int .i64 y) es i = some none) ∨ (y ∈ xs ∧ ∃ j, xs[j]? = some y ∧ Instr.findNow (.int .i64) (.int .i64 y) es i = some (some (i + j, .bool true))) := by
  intro es
  induction es with
  | nil =>
    intro xs i h
    cases xs with
    | nil => exact .inl ⟨by simp, rfl⟩
    | cons x r => simp [IsSet] at h
  | cons e es ih =>
    intro xs i h
    obtain ⟨x, r, rfl, hk, hv, hr⟩ := h.cons
    by_cases hxy : y = x
    · subst hxy
      refine .inr ⟨by simp, 0, rfl, ?_⟩
      simp [Instr.findNow, Instr.sameNow, hk, hv]
    · have hf : Instr.sameNow (.int .i64) (.int .i64 y) e.key = some false := by simp [Instr.sameNow, hk, hxy]
      rcases ih r (i + 1) hr with ⟨h1, h2⟩ | ⟨h1, j, h2, h3⟩
      · exact .inl ⟨by simp [hxy, h1], by simp only [Instr.findNow, hf]; exact h2⟩
      · exact .inr ⟨by simp [h1], j + 1, by simpa using h2, by simp only [Instr.findNow, hf]; rw [h3]; congr 3; omega⟩

section
variable {P : Program} {w : World} {t K E : TypeId} {r clock : Nat} {es : Array MapEntry} {xs : List Int}
theorem run_checkKey_i (b : Bool) (n : Nat) (hk : P.underlying K = some (.int .i64)) (x : Int) : (Instr.checkKey b (n + 1) K (.int .i64 x)).run P w = .ok () w := by
  simp [Instr.checkKey, run_underlying hk]
theorem run_findKey_i (hk : P.underlying K = some (.int .i64)) (x : Int) (l : List MapEntry) {o : Option (Nat × Value)} (hf : Instr.findNow (.int .i64) (.int .i64 x) l 0 = some o) : (Instr.findKey K (.int .i64 x) l).run P w = .ok o w := by
  simp [Instr.findKey, run_underlying hk, hf]
theorem run_getObj_m (hr : w.heap[r]? = some (.map es clock)) : (getObj r).run P w = .ok (.map es clock) w := by
  simp [getObj, Sem.run, hr]
theorem run_setObj_m (o : Obj) (hr : w.heap[r]? = some (.map es clock)) : (setObj r o).run P w = .ok () (w.putObj r o) := by
  simp [setObj, Sem.run, hr, World.putObj]
/-- gone[y] = true. -/
theorem run_setAdd (ht : P.underlying t = some (.map K E)) (hk : P.underlying K = some (.int .i64)) (hr : w.heap[r]? = some (.map es clock)) (hs : IsSet es.toList xs) (y : Int) :
    ∃ es' clock' xs', (Instr.mapUpdate t (.map (some r)) (.int .i64 y) (.bool true)).run P w = .ok () (w.putObj r (.map es' clock')) ∧ IsSet es'.toList xs' ∧ ∀ z, z ∈ xs' ↔ z = y ∨ z ∈ xs := by
  rcases find_set y es.toList xs 0 hs with ⟨h1, h2⟩ | ⟨h1, j, h2, h3⟩
  · refine ⟨es.push ⟨.int .i64 y, .bool true, clock⟩, clock + 1, xs ++ [y], ?_, ?_, fun z => ?_⟩
    · simp [Instr.mapUpdate, run_underlying ht, run_getObj_m hr, run_checkKey_i false 9999 hk, run_findKey_i hk y es.toList h2, run_setObj_m _ hr]
    · unfold IsSet at hs ⊢
      simp only [Array.toList_push, List.map_append, hs, List.map_cons, List.map_nil]
    · simp [or_comm]
  · rw [Nat.zero_add] at h3
    have hlen : es.toList.length = xs.length := by have := congrArg List.length hs; simpa using this
    have hj : j < xs.length := (List.getElem?_eq_some_iff.1 h2).1
    have hjs : j < es.size := by simpa using (by omega : j < es.toList.length)
    have hkey : es[j].key = .int .i64 y ∧ es[j].val = .bool true := by
      have h := congrArg (fun l => l[j]?) hs
      simp only [List.getElem?_map, h2] at h
      rw [List.getElem?_eq_getElem (by simpa using hjs)] at h
      simpa using h
    refine ⟨es.modify j fun e => { e with key := .int .i64 y, val := .bool true }, clock, xs, ?_, ?_, fun z => ⟨.inr, fun h => h.elim (fun e => e ▸ h1) id⟩⟩
    · have hst : ∀ W, (Instr.keyThatStays (.int .i64 y) (.int .i64 y)).run P W = .ok (.int .i64 y) W := fun W => by simp [Instr.keyThatStays, Instr.sameBits]
      simp [Instr.mapUpdate, run_underlying ht, run_getObj_m hr, run_checkKey_i false 9999 hk, run_findKey_i hk y es.toList h3, run_setObj_m _ hr, Array.getElem?_eq_getElem hjs, hkey.1, hst]
    · unfold IsSet at hs ⊢
      rw [← hs]
      apply List.ext_getElem
      · simp
      · intro i h1' h2'
        simp only [List.getElem_map, Array.getElem_toList]
        by_cases hij : j = i
        · subst hij
          simp [Array.getElem_modify, hkey.1, hkey.2]
        · simp [Array.getElem_modify, hij]
/-- gone[y]. -/
theorem run_setHas (ht : P.underlying t = some (.map K E)) (hk : P.underlying K = some (.int .i64)) (hr : w.heap[r]? = some (.map es clock)) (hs : IsSet es.toList xs) (hz : (zeroValue E).run P w = .ok (.bool false) w) (y : Int) :
    (Instr.lookup t (.map (some r)) (.int .i64 y) false).run P w = .ok (.bool (decide (y ∈ xs))) w := by
  rcases find_set y es.toList xs 0 hs with ⟨h1, h2⟩ | ⟨h1, j, h2, h3⟩
  · simp [Instr.lookup, run_underlying ht, run_getObj_m hr, run_checkKey_i es.isEmpty 9999 hk, run_findKey_i hk y es.toList h2, hz, h1]
  · simp [Instr.lookup, run_underlying ht, run_getObj_m hr, run_checkKey_i es.isEmpty 9999 hk, run_findKey_i hk y es.toList h3, h1]
end
/-- A set of integers at r: those of p. -/
def setT (r : Nat) (xs : List Int) : Thing where
  holds w fp := fp = [r] ∧ ∃ es clock ys, w.heap[r]? = some (.map es clock) ∧ IsSet es.toList ys ∧ ∀ z, z ∈ ys ↔ z ∈ xs
  keep := fun ⟨h1, es, c, ys, h2, h3⟩ he => ⟨h1, es, c, ys, (he r (by simp [h1])).trans h2, h3⟩
  lt := fun ⟨h1, es, c, ys, h2, _⟩ k hk => by subst h1; simp at hk; subst hk; exact (Array.getElem?_eq_some_iff.1 h2).1

/-- clear of the end of a row. -/
theorem run_clear_row {P : Program} (w : World) (t ty e : TypeId) (i : TypeInfo) (z : Value) (size : Nat) (ht : P.underlying t = some (.slice e)) (hi : P.info? e = some i) (hz : i.zero = some z) (hsize : i.size = size) (hzs : z.cells.size = size) (h1 : ∀ u ∈ z.cells.toList, u.oneCell' = true)
    (g n cap lo c : Nat) (xs : List Value) (h : rowS w e size (.slice (some ⟨g, 0, none⟩) n cap) n xs) (hlo : lo ≤ n) {sa : Option Addr} {k : Nat} (hk : lo * k = lo * size) (hs : n = lo ∨ sa = (some (⟨g, 0, none⟩ : Addr)).map (·.add (lo * k))) :
    ∃ w', (Builtin.clear_ #[t] ty #[.slice sa (n - lo) c]).run P w = .ok (.tuple #[]) w' ∧ rowS w' e size (.slice (some ⟨g, 0, none⟩) lo cap) lo (xs.take (lo * size)) ∧ w.grownBy w' (some g) := by
  have hms : lo * size ≤ n * size := Nat.mul_le_mul_right _ hlo
  rcases h.2 with ⟨hv, _⟩ | ⟨g', cap', cur, hv, hg, hc1, hc2, hc3, hc4⟩
  · cases hv
  injection hv with ha _ hcc
  injection ha with ha
  injection ha with ha
  subst ha hcc
  have hns : n * size ≤ cur.size := Nat.le_trans (Nat.mul_le_mul_right _ hc1) hc3
  have hrow : ∀ cur' : Array Value, cur'.size = cur.size → cur'.toList.take (lo * size) = cur.toList.take (lo * size) → ∀ w', w'.heap[g]? = some (.cells cur' e (0, 0)) → rowS w' e size (.slice (some ⟨g, 0, none⟩) lo cap) lo (xs.take (lo * size)) := fun cur' e1 e2 w' hw => by
    refine ⟨by rw [List.length_take, h.1]; omega, .inr ⟨g, cap, cur', rfl, hw, by omega, hc2, by omega, ?_⟩⟩
    rw [e2, ← hc4, List.take_take, Nat.min_eq_left hms]
  by_cases hnl : n = lo
  · subst hnl
    refine ⟨w, ?_, hrow cur rfl rfl w hg, World.grownBy.refl w _⟩
    rw [Nat.sub_self]
    cases sa <;> simp [Builtin.clear_, run_underlying ht]
  · have hs' := hs.resolve_left hnl
    subst hs'
    have hst := run_storeCells_at P g (lo * size) e (Builtin.zeroCells z.cells (n - lo)).toList 0 cur w hg (by
      have hsz : (Builtin.zeroCells z.cells (n - lo)).toList.length = (n - lo) * size := by rw [Array.length_toList, size_zeroCells, hzs]
      have : (n - lo) * size = n * size - lo * size := Nat.sub_mul _ _ _
      rw [hsz]
      omega) (by
      intro u hu
      simp only [Builtin.zeroCells, Array.toList_map, List.mem_map] at hu
      obtain ⟨q, hq, rfl⟩ := hu
      have hq2 : q < (n - lo) * z.cells.size := by simpa using hq
      have hpos : 0 < z.cells.size := by
        rcases Nat.eq_zero_or_pos z.cells.size with h0 | h0
        · rw [h0] at hq2; omega
        · exact h0
      have hlt := Nat.mod_lt q hpos
      rw [getElem!_pos z.cells (q % z.cells.size) hlt]
      exact h1 _ (by simp))
    have hsz : (Builtin.zeroCells z.cells (n - lo)).toList.length = (n - lo) * size := by rw [Array.length_toList, size_zeroCells, hzs]
    have hmul : (n - lo) * size = n * size - lo * size := Nat.sub_mul _ _ _
    simp only [Nat.add_zero] at hst
    obtain ⟨m, hm⟩ : ∃ m, n - lo = m + 1 := ⟨n - lo - 1, by omega⟩
    obtain ⟨zs, hzs2⟩ : ∃ zs, (Builtin.zeroCells z.cells (n - lo)).toList = zs := ⟨_, rfl⟩
    rw [hzs2] at hst hsz
    refine ⟨w.setRow g (cur.toList.take (lo * size) ++ zs ++ cur.toList.drop (lo * size + zs.length)).toArray, ?_, hrow _ ?_ ?_ _ (setRow_heap w g cur _ e _ hg), ⟨rfl, rfl, rfl, by simp, fun q _ hq => setRow_other w g q _ (fun e => hq (by simp [e]))⟩⟩
    · rw [hm] at hzs2 ⊢
      simp [Builtin.clear_, run_underlying ht, zeroValue, typeInfo, hi, hz, hk, Addr.add_lit, hzs2, hst]
    · simp only [List.size_toArray, List.length_append, List.length_take, List.length_drop, Array.length_toList, hsz]
      omega
    · simp only [List.append_assoc]
      rw [List.take_left' (by simp; omega)]
end Go.Proofs.Ytihmbgdkllmkaaa

/-
  slices.IndexFunc and slices.DeleteFunc at entries; Purge (queue.go).
-/
namespace Go.Proofs.Ytihmbgdkllmkaaa
open Go.RowKit Go.Shelf
set_option maxRecDepth 100000
set_option linter.unusedVariables false
set_option linter.unusedSimpArgs false

set_option maxHeartbeats 2000000 in
theorem IndexFunc_q (w : World) (a : Option Addr) (cap : Nat) (es : List ME) (fc : Nat) (caps : Array Value) (P : PE → Prop) (hents : EntsAt w a es) (hlen : es.length ≤ 9223372036854775807)
    (eg : ∀ args w, (callFunc fc args).run Try.prog w = .ok (.enter fc args) w) (hch : ∀ e ∈ es, ∀ W, Touch [] w W → Calls Try.prog fc (#[e.val] ++ caps) W (Tells (P e.plain) W)) :
    Calls Try.prog 106 #[.slice a es.length cap, .func (.func fc) #[] caps] w (IdxTold P (es.map ME.plain) 0 w) := by
  have HE := Lib.hid hents
  have HCH := Lib.hid hch
  clear hents hch
  simp only [ent_eq] at HCH
  go_enter Try.func106, Try.ntmps106
  go_wp2_with fail
  go_loopw [8] (fun i wr => ∃ j : Nat, i = .int .i64 (j : Int) ∧ j ≤ es.length ∧ Hid (∀ i (h : i < (es.map ME.plain).length), i < j → ¬ P (es.map ME.plain)[i]) ∧ Hid (Touch [] w wr)) (fun i _ => es.length - (intOf i).toNat)
  case atStart => exact ⟨0, rfl, Nat.zero_le _, by unfold Hid; intro i _ h1; omega, Touch.refl [] w⟩
  case round =>
    obtain ⟨j, rfl, hjf, HD, HT⟩ := hrel
    have hj0 : (0 : Int) ≤ (j : Int) := by omega
    by_cases hjl : j < es.length
    · have hjl' : (j : Int) < (es.length : Int) := by omega
      obtain ⟨b, o, rfl, hb, p0, p1, p2, p3, p4, p5, p6⟩ := (HE.out.touch HT.out) j hjl
      have HC := Lib.hid (HCH.out _ (List.getElem_mem hjl) wr HT.out)
      have HXJ : Hid ((es.map ME.plain)[j]'(by simpa using hjl) = es[j].plain) := by unfold Hid; simp
      generalize es[j] = x at p0 p1 p2 p3 p4 p5 p6 HC HXJ
      go_wp2_with fail
      refine HC.out.mono ?_
      rintro e w2 ⟨cc, rfl, hcc, ht⟩
      have HT2 := Lib.hid (HT.out.trans' ht)
      have HCC := Lib.hid hcc
      clear hcc ht p0 p1 p2 p3 p4 p5 p6 HC
      cases cc with
      | false =>
        go_wp2
        go_roundw
        case rel =>
          refine ⟨j + 1, by go_num, by omega, ?_, HT2⟩
          unfold Hid
          intro i h h2
          by_cases hij : i = j
          · subst hij
            rw [HXJ.out]
            intro hp
            have := HCC.out.2 hp
            cases this
          · exact HD.out i h (by omega)
        case measure => simp [intOf]; omega
      | true =>
        go_wp2
        go_ret
        refine ⟨(j : Int), rfl, .inr ⟨j, by simpa using hjl, rfl, by omega, ?_, fun i h h1 h2 => HD.out i h h2⟩, HT2.out⟩
        rw [HXJ.out]
        exact HCC.out.1 (by simp)
    · have hjl' : ¬ (j : Int) < (es.length : Int) := by omega
      go_wp2
      go_ret
      exact ⟨-1, rfl, .inl ⟨rfl, fun i h h1 => HD.out i h (by simp at h; omega)⟩, HT.out⟩

theorem wpList_clear_run {P : Program} (w : World) {ops : Array Oper} {rest : List Oper} {o : Oper} {a : Act} {Q : Exit → Act → World → Prop} (hgd : o.guard = none) (x : Operand) (t : TypeId)
    (ho : o.op = .call { callee := .builtin .clear, args := #[x], argTypes := #[t] }) (vx : Value) (hx : a.eval x = vx)
    (v' : Value) (w' : World) (hr : (Builtin.clear_ #[t] o.type #[vx]).run P w = .ok v' w') (h : wpList P ops Q rest (a.put o.dst v') w') : wpList P ops Q (o :: rest) a w :=
  wpList_plain hgd fun _ hK => by
    unfold Oper.wp execOp
    simp only [ho, resolve, invoke, builtin, Sem.run_bind, Sem.run_pure, Result.andThen_ok, List.map_toArray, List.map_cons, List.map_nil, hx, hr]
    exact hK _ _ h
section
variable {T : List Nat} {w0 w : World} {l : List Thing}
theorem Led.rowEnts (h : Led T w0 w l) (i : Nat) {e g n cap : Nat} {vs : List ME} (hi : l[i]? = some (rowT e 7 (.slice (some ⟨g, 0, none⟩) n cap) n (entCells vs))) {j : Nat} (hj : j < vs.length) :
    EntAt w g (j * 7) vs[j] ∧ (w.frozen? ⟨g, j * 7, none⟩ = false ∧ w.frozen? ⟨g, j * 7 + 1, none⟩ = false ∧ w.frozen? ⟨g, j * 7 + 2, none⟩ = false ∧ w.frozen? ⟨g, j * 7 + 3, none⟩ = false ∧ w.frozen? ⟨g, j * 7 + 4, none⟩ = false ∧ w.frozen? ⟨g, j * 7 + 5, none⟩ = false ∧ w.frozen? ⟨g, j * 7 + 6, none⟩ = false) ∧ g < w.heap.size := by
  have hr := h.rowSAt i hi
  have hl := entCells_length vs
  have hc : ∀ q, q < 7 → w.cell? ⟨g, j * 7 + q, none⟩ = vs[j].cells[q]? := fun q hq => by
    have hlt : j * 7 + q < (entCells vs).length := by omega
    rw [rowS_cell hr _ hlt, ← entCells_get vs j hj q hq, List.getElem?_eq_getElem hlt]
  exact ⟨⟨hc 0 (by omega), hc 1 (by omega), hc 2 (by omega), hc 3 (by omega), hc 4 (by omega), hc 5 (by omega), hc 6 (by omega)⟩, ⟨rowS_frozen hr _, rowS_frozen hr _, rowS_frozen hr _, rowS_frozen hr _, rowS_frozen hr _, rowS_frozen hr _, rowS_frozen hr _⟩, rowS_lt hr g (by simp [sb, Value.ownBlock])⟩
theorem Led.rowSetEnt (h : Led T w0 w l) (i : Nat) {e g n cap : Nat} {vs : List ME} (hi : l[i]? = some (rowT e 7 (.slice (some ⟨g, 0, none⟩) n cap) n (entCells vs))) {j : Nat} (hj : j < vs.length) (x : ME) :
    Led T w0 (((((((w.setCell ⟨g, j * 7, none⟩ (.int .i64 x.sync)).setCell ⟨g, j * 7 + 1, none⟩ (.int .i64 x.thread)).setCell ⟨g, j * 7 + 2, none⟩ (.int .i64 x.branch)).setCell ⟨g, j * 7 + 3, none⟩ (.int .i64 x.flag)).setCell ⟨g, j * 7 + 4, none⟩ (.int .i64 x.v.kind)).setCell ⟨g, j * 7 + 5, none⟩ (.int .i64 x.v.num)).setCell ⟨g, j * 7 + 6, none⟩ (.slice x.v.addr x.v.parts.length x.v.cap))
      (l.set i (rowT e 7 (.slice (some ⟨g, 0, none⟩) n cap) n (entCells (vs.set j x)))) := by
  have hl := (List.getElem?_eq_some_iff.1 hi).1
  have e : ∀ (l : List Thing) (t1 t2 : Thing), (l.set i t1).set i t2 = l.set i t2 := fun l t1 t2 => List.set_set t1
  have g : ∀ (t1 : Thing), (l.set i t1)[i]? = some t1 := fun t1 => List.getElem?_set_self hl
  have h1 := h.rowSset i hi (j * 7) (.int .i64 x.sync)
  have h2 := h1.rowSset i (g _) (j * 7 + 1) (.int .i64 x.thread)
  rw [e] at h2
  have h3 := h2.rowSset i (g _) (j * 7 + 2) (.int .i64 x.branch)
  rw [e] at h3
  have h4 := h3.rowSset i (g _) (j * 7 + 3) (.int .i64 x.flag)
  rw [e] at h4
  have h5 := h4.rowSset i (g _) (j * 7 + 4) (.int .i64 x.v.kind)
  rw [e] at h5
  have h6 := h5.rowSset i (g _) (j * 7 + 5) (.int .i64 x.v.num)
  rw [e] at h6
  have h7 := h6.rowSset i (g _) (j * 7 + 6) (.slice x.v.addr x.v.parts.length x.v.cap)
  rw [e] at h7
  rw [entCells_set vs j hj x]
  exact h7
end
/-- What DeleteFunc leaves. -/
def Deleted (T : List Nat) (w : World) (es : List ME) (p : PE → Bool) (a : Option Addr) (cap : Nat) (e : Ending) (w' : World) : Prop :=
  e = .returned (.slice a (es.filter fun e => !p e.plain).length cap) ∧ Led T w w' [rowT 27 7 (.slice a (es.filter fun e => !p e.plain).length cap) (es.filter fun e => !p e.plain).length (entCells (es.filter fun e => !p e.plain))]
theorem filter_take_succ (f : ME → Bool) {es : List ME} {j : Nat} (hj : j < es.length) : (es.take (j + 1)).filter f = (es.take j).filter f ++ (if f es[j] then [es[j]] else []) := by
  rw [List.take_add_one, List.getElem?_eq_getElem hj, Option.toList_some, List.filter_append]
  congr 1
  by_cases h : f es[j] = true <;> simp [h]
theorem filter_all (f : ME → Bool) {es : List ME} {j : Nat} (h : ∀ i (hi : i < es.length), i < j → f es[i] = true) : (es.take j).filter f = es.take j := by
  rw [List.filter_eq_self]
  intro x hx
  obtain ⟨i, hi, rfl⟩ := List.mem_iff_getElem.1 hx
  simp only [List.length_take] at hi
  rw [List.getElem_take]
  exact h i (by omega) (by omega)

set_option maxHeartbeats 4000000 in
theorem DeleteFunc_q (T : List Nat) (w : World) (a : Option Addr) (cap : Nat) (es : List ME) (fc : Nat) (caps : Array Value) (p : PE → Bool) (hL : Led T w w [rowT 27 7 (.slice a es.length cap) es.length (entCells es)]) (hcap : es.length ≤ cap) (hlen : es.length ≤ 1048576)
    (eg : ∀ args w, (callFunc fc args).run Try.prog w = .ok (.enter fc args) w) (hch : ∀ (e : ME) W, Touch T w W → Calls Try.prog fc (#[e.val] ++ caps) W (Tells (p e.plain = true) W)) :
    Calls Try.prog 66 #[.slice a es.length cap, .func (.func fc) #[] caps] w (Deleted T w es p a cap) := by
  have HL0 := Lib.hid hL
  have HI := Lib.hid (IndexFunc_q w a cap es fc caps (fun e => p e = true) (ents_of_rowS (hL.rowSAt 0 rfl)) (by omega) eg (fun e he W hW => hch e W ⟨hW.os, hW.tape, hW.output, hW.size, fun k hk _ => hW.block k hk (by simp)⟩))
  have HCH := Lib.hid hch
  simp only [ent_eq] at HCH
  clear hL hch
  go_enter Try.func66, Try.ntmps66
  go_wp2_with fail
  refine HI.out.mono ?_
  rintro e w1 ⟨r, rfl, hr, ht⟩
  have HL1 := Lib.hid (HL0.out.touch ht)
  clear ht HI HL0
  rcases hr with ⟨rfl, hno⟩ | ⟨j0, hj0, rfl, _, hp, hno⟩
  · have HF : Hid (es.filter (fun e => !p e.plain) = es) := by
      unfold Hid
      have := filter_all (fun e => !p e.plain) (es := es) (j := es.length) (fun i hi _ => by
        have := hno i (by simpa using hi) (by omega)
        simpa using this)
      rwa [List.take_length] at this
    clear hno
    go_wp2
    go_ret
    unfold Deleted
    rw [HF.out]
    exact ⟨rfl, HL1.out⟩
  · have hj0' : j0 < es.length := by simpa using hj0
    obtain ⟨gr, cap', cur, hv, _⟩ := rowS_form (HL1.out.rowSAt 0 rfl) (by omega)
    injection hv with hv1 _ hv3
    subst hv1 hv3
    have HF0 : Hid ((es.take (j0 + 1)).filter (fun e => !p e.plain) = es.take j0) := by
      unfold Hid
      rw [filter_take_succ _ hj0', filter_all (j := j0) _ (fun i hi hij => by
        have := hno i (by simpa using hi) (by omega) hij
        simpa using this)]
      have h2 : p es[j0].plain = true := by simpa using hp
      simp [h2]
    clear hno hp hj0
    have hjn : ((j0 : Int) == -1) = false := by first | (simp; done) | (simp; omega)
    go_wp2_with fail
    go_loopw [5, 6] (fun x y wr => ∃ (i j : Nat) (L : List ME), x = .int .i64 (i : Int) ∧ y = .int .i64 (j : Int) ∧ i < j ∧ j ≤ es.length ∧ L.length = es.length ∧ Hid (L.take i = (es.take j).filter fun e => !p e.plain) ∧ Hid (L.drop j = es.drop j) ∧ Hid (Led T w wr [rowT 27 7 (.slice (some ⟨gr, 0, none⟩) es.length cap) es.length (entCells L)])) (fun _ y _ => es.length - (intOf y).toNat)
    case atStart => exact ⟨j0, j0 + 1, es, rfl, by go_num, by omega, by omega, rfl, HF0.out.symm, rfl, HL1⟩
    case round =>
      obtain ⟨i, j, L, rfl, rfl, hij, hj, hll, HA, HB, HK⟩ := hrel
      have hi0 : (0 : Int) ≤ (i : Int) := by omega
      have hjj0 : (0 : Int) ≤ (j : Int) := by omega
      clear HL1
      by_cases hjl : j < es.length
      · have hjl' : (j : Int) < (es.length : Int) := by omega
        have hil' : (i : Int) < (es.length : Int) := by omega
        have hjL : j < L.length := by omega
        obtain ⟨⟨p0, p1, p2, p3, p4, p5, p6⟩, _, zg⟩ := HK.out.rowEnts 0 rfl hjL
        have HXE : Hid (L[j] = es[j]) := by
          unfold Hid
          have h := congrArg (fun l => l[0]?) HB.out
          simpa [hjL, hjl] using h
        have HFS := Lib.hid (filter_take_succ (fun e => !p e.plain) hjl)
        rw [HXE.out] at p0 p1 p2 p3 p4 p5 p6
        have HBS : Hid (L.drop (j + 1) = es.drop (j + 1)) := by
          unfold Hid
          have h := congrArg (List.drop 1) HB.out
          simpa [List.drop_drop, Nat.add_comm] using h
        generalize es[j] = x at p0 p1 p2 p3 p4 p5 p6 HFS
        clear HXE
        go_wp2_with fail
        refine wp_calls_name ?_
        intro w2 hw2
        have HL2 := Lib.hid (HK.out.al1 hw2)
        simp only [List.nil_append, List.cons_append] at HL2
        obtain ⟨b7, hb7⟩ : ∃ b, wr.heap.size = b := ⟨_, rfl⟩
        rw [hb7] at HL2 ⊢
        clear hw2 hb7 p0 p1 p2 p3 p4 p5 p6 zg
        refine (HCH.out x w2 HL2.out.tch).mono ?_
        rintro e w3 ⟨cc, rfl, hcc, ht⟩
        have HL3 := Lib.hid (HL2.out.touch ht)
        have HCC := Lib.hid hcc
        clear hcc ht HL2
        cases cc with
        | true =>
          go_wp2
          go_roundw
          case rel =>
            refine ⟨i, j + 1, L, rfl, by go_num, by omega, by omega, hll, ?_, HBS, HL3.out.sel [0] rfl (by decide)⟩
            unfold Hid
            have hp := HCC.out.1 (by simp)
            rw [HFS.out, HA.out]
            simp [hp]
          case measure => simp [intOf]; omega
        | false =>
          have hiL : i < L.length := by omega
          obtain ⟨⟨p0, p1, p2, p3, p4, p5, p6⟩, ⟨f0, f1, f2, f3, f4, f5, f6⟩, zg⟩ := HL3.out.rowEnts 0 rfl hiL
          obtain ⟨y0, y1, y2, y3, y4, y5, y6, _, zy, _, _⟩ := HL3.out.c7 1 rfl
          have n1 := HL3.out.rowSne 0 1 rfl rfl (by decide)
          have n2 := Ne.symm n1
          go_wp2
          have HL4 : Hid (Led T w _ [rowT 27 7 (.slice (some ⟨gr, 0, none⟩) es.length cap) es.length (entCells (L.set i x))]) := (HL3.out.rowSetEnt 0 rfl hiL x).sel [0] rfl (by decide)
          go_roundw
          case rel =>
            refine ⟨i + 1, j + 1, L.set i x, by go_num, by go_num, by omega, by omega, by simpa using hll, ?_, ?_, HL4⟩
            · unfold Hid
              have hp : ¬ p x.plain = true := fun h => by have := HCC.out.2 h; cases this
              rw [HFS.out, List.take_add_one, List.getElem?_set_self hiL, List.take_set_of_le (Nat.le_refl _), HA.out]
              simp [hp]
            · unfold Hid
              rw [List.drop_set_of_lt (by omega)]
              exact HBS.out
          case measure => simp [intOf]; omega
      · have hjl' : ¬ (j : Int) < (es.length : Int) := by omega
        obtain rfl : j = es.length := by omega
        obtain ⟨i0, hi0, iz0, iz1, iz2⟩ := info_parts info_ent
        obtain ⟨sa, hsa, hsl⟩ := run_slice_from Try.underlying32 hi0 (some ⟨gr, 0, none⟩) es.length cap i (by omega) hcap
        have hsl2 := fun W => run_slice_to Try.underlying32 hi0 (some ⟨gr, 0, none⟩) es.length cap i (by omega) W
        obtain ⟨w2, hrun, hrow, hgrow⟩ := run_clear_row (P := Try.prog) wr 32 0 27 i0 _ 7 Try.underlying32 hi0 iz0 iz1 rfl (by decide) gr es.length cap i (cap - i) (entCells L) (HK.out.rowSAt 0 rfl) (by omega) (by rw [iz1]) hsa
        have HFI : Hid (L.take i = es.filter fun e => !p e.plain) := by
          have h := HA.out
          rw [List.take_length] at h
          exact h
        have hil : (es.filter fun e => !p e.plain).length = i := by rw [← HFI.out]; simp; omega
        have HL2 : Hid (Led T w w2 [rowT 27 7 (.slice (some ⟨gr, 0, none⟩) i cap) i (entCells (L.take i))]) := by
          have h := HK.out.grownS 0 rfl hgrow hrow (.inl rfl)
          rw [entCells_take]
          exact h
        clear hrow hgrow HK hsa
        go_wp2_with (at_builtin; go_must (refine wpList_clear_run _ rfl (.tmp 38) 32 rfl (.slice sa (es.length - i) (cap - i)) rfl _ w2 hrun ?_))
        go_ret
        unfold Deleted
        rw [hil, ← HFI.out]
        exact ⟨rfl, HL2.out⟩

theorem zero_bool (w : World) : (zeroValue 4).run Try.prog w = .ok (.bool false) w := by kernel_rfl
theorem Purge1_q (e : ME) (b r : Nat) (zs : List Int) (w : World) (hb : w.cell? ⟨b, 0, none⟩ = some (.map (some r))) (hs : ∃ f, (setT r zs).holds w f) : Calls Try.prog 67 (#[e.val] ++ #[.pointer (some ⟨b, 0, none⟩)]) w (Tells (decide (e.plain.sync ∈ zs) = true) w) := by
  have hlt := World.block_lt_of_cell? _ _ hb
  obtain ⟨_, _, es, clock, ys, hr, hset, hys⟩ := hs
  have hlk : ∀ o, (Instr.lookup 118 (.map (some r)) (.int .i64 e.sync) false).run Try.prog (w.alloc o) = .ok (.bool (decide (e.sync ∈ ys))) (w.alloc o) := fun o =>
    run_setHas Try.underlying118 Try.underlying3 ((Below.heap_alloc w o r (Array.getElem?_eq_some_iff.1 hr).1).trans hr) hset (zero_bool _) e.sync
  have HY := Lib.hid hys
  clear hr hset hys
  simp only [ent_eq, List.append_toArray, List.cons_append, List.nil_append]
  go_enter Try.func67, Try.ntmps67
  go_wp2
  go_ret
  exact ⟨_, rfl, by simp [ME.plain, HY.out], (Touch.refl [] w).alloc _⟩

/-- Integers lie at an address. -/
def IntsAt (w : World) (a : Option Addr) (zs : List Int) : Prop := ∀ i (hi : i < zs.length), ∃ b o, a = some ⟨b, o, none⟩ ∧ b < w.heap.size ∧ w.cell? ⟨b, o + i, none⟩ = some (.int .i64 zs[i])
def Purged (T : List Nat) (w : World) (g : Nat) (es : List ME) (zs : List Int) (e : Ending) (w' : World) : Prop :=
  e = .returned (.int .i64 ((es.length - (es.filter fun e => !decide (e.plain.sync ∈ zs)).length : Nat) : Int)) ∧ Led T w w' [queueT g (es.filter fun e => !decide (e.plain.sync ∈ zs))]
theorem Led.setNew {T : List Nat} {w0 w : World} {l : List Thing} (h : Led T w0 w l) {w' : World} (e : w.alloc (.map #[] 0) = w') : Led T w0 w' (l ++ [setT w.heap.size []]) :=
  e ▸ h.new (t' := setT w.heap.size []) (f' := [w.heap.size]) ⟨rfl, #[], 0, [], heap_alloc_new w _, IsSet.nil, by simp⟩ ⟨(Touch.refl [] w).alloc _, fun k hk => .inr (by simp at hk; omega)⟩
theorem made_map (h : Int) (W : World) : (Instr.makeMap 118 (some (.int .i64 h))).run Try.prog W = .ok (.map (some W.heap.size)) (W.alloc (.map #[] 0)) := by
  simp [Instr.makeMap, run_underlying Try.underlying118, asInt, asIntOf, newObj]
  rfl
theorem Led.setAdd {T : List Nat} {w0 w : World} {l : List Thing} (h : Led T w0 w l) (i : Nat) {r : Nat} {xs : List Int} (hi : l[i]? = some (setT r xs)) (y : Int) :
    ∃ w', (Instr.mapUpdate 118 (.map (some r)) (.int .i64 y) (.bool true)).run Try.prog w = .ok () w' ∧ Led T w0 w' (l.set i (setT r (xs ++ [y]))) := by
  obtain ⟨f, ⟨hf, es, clock, ys, hr, hset, hys⟩, _, hs⟩ := h.step i hi
  subst hf
  obtain ⟨es', clock', xs', hrun, hset', hx'⟩ := run_setAdd (P := Try.prog) Try.underlying118 Try.underlying3 hr hset y
  have hlt := (Array.getElem?_eq_some_iff.1 hr).1
  refine ⟨_, hrun, hs _ (setT r (xs ++ [y])) [r] ⟨rfl, es', clock', xs', World.putObj_heap_same hlt, hset', fun z => ?_⟩ ⟨(Touch.refl _ w).putObj (.inr (by simp)) _, fun k hk => .inl hk⟩⟩
  rw [hx', hys]
  simp [or_comm]
set_option maxHeartbeats 4000000 in
theorem Purge_q (T : List Nat) (w : World) (g : Nat) (es : List ME) (a : Option Addr) (cap : Nat) (zs : List Int) (hL : Led T w w [queueT g es]) (hsrc : ∀ W, Touch T w W → IntsAt W a zs) (hes : es.length ≤ 1048576) (hzs : zs.length ≤ 1048576) :
    Calls Try.prog 23 #[.pointer (some ⟨g, 0, none⟩), .slice a zs.length cap] w (Purged T w g es zs) := by
  obtain ⟨qa, qc, hqc1, hqc2, h1⟩ := Led.openQ (l := []) hL
  have HK := Lib.hid h1
  simp only [List.nil_append] at HK
  have HSRC := Lib.hid hsrc
  clear h1 hL hsrc
  obtain ⟨q0, q1, fq0, fq1, zq, _, _⟩ := HK.out.c2 0 rfl
  go_enter Try.func23, Try.ntmps23
  go_wp2_with fail
  refine (none_no g w q0).mono ?_
  rintro e w' ⟨rfl, rfl⟩
  have hmk := made_map (zs.length : Int)
  go_wp2_with fail
  refine wp_name ?_
  intro w1 hw1
  have HL1 := Lib.hid ((HK.out.setNew rfl).al1 hw1)
  simp only [List.nil_append, List.cons_append, World.size_alloc] at HL1
  obtain ⟨b5, hb5⟩ : ∃ b, w.heap.size + 1 = b := ⟨_, rfl⟩
  rw [hb5] at HL1 ⊢
  obtain ⟨r, hr⟩ : ∃ b, w.heap.size = b := ⟨_, rfl⟩
  rw [hr] at HL1
  clear hb5 hr hw1 HK q0 q1 fq0 fq1 zq hmk
  go_loopw [16] (fun i wr => ∃ j : Nat, i = .int .i64 (j : Int) ∧ j ≤ zs.length ∧ Hid (Led T w wr [box g 67 #[.bool true, .slice qa es.length qc], rowT 27 7 (.slice qa es.length qc) es.length (entCells es), setT r (zs.take j), box b5 118 #[.map (some r)]])) (fun i _ => zs.length - (intOf i).toNat)
  case atStart => exact ⟨0, rfl, Nat.zero_le _, HL1⟩
  case round =>
    obtain ⟨j, rfl, hj, HK⟩ := hrel
    clear HL1
    have hj0 : (0 : Int) ≤ (j : Int) := by omega
    by_cases hjl : j < zs.length
    · have hjl' : (j : Int) < (zs.length : Int) := by omega
      obtain ⟨b, o, rfl, hb, p0⟩ := HSRC.out wr HK.out.tch j hjl
      have HTS : Hid (zs.take (j + 1) = zs.take j ++ [zs[j]]) := by
        unfold Hid
        rw [List.take_add_one, List.getElem?_eq_getElem hjl, Option.toList_some]
      obtain ⟨w2, hrun, hL2⟩ := HK.out.setAdd 2 rfl zs[j]
      generalize zs[j] = y at p0 HTS hrun hL2
      simp only [List.set_cons_succ, List.set_cons_zero] at hL2
      rw [← HTS.out] at hL2
      have HL2 := Lib.hid hL2
      obtain ⟨x0, fx, zx, _, _⟩ := HK.out.c1 3 rfl
      clear hL2
      go_wp2
      go_roundw
      case rel => exact ⟨j + 1, by go_num, by omega, HL2⟩
      case measure => simp [intOf]; omega
    · have hjl' : ¬ (j : Int) < (zs.length : Int) := by omega
      obtain rfl : j = zs.length := by omega
      rw [List.take_length] at HK
      obtain ⟨q0, q1, fq0, fq1, zq, _, _⟩ := HK.out.c2 0 rfl
      obtain ⟨x0, fx, zx, _, _⟩ := HK.out.c1 3 rfl
      go_wp2_with fail
      refine (count_q g _ _ _ wr q1).mono ?_
      rintro e w' ⟨rfl, rfl⟩
      obtain ⟨T', h1, _, hkeep, hback⟩ := HK.out.frameK 1 rfl
      have HD := Lib.hid (DeleteFunc_q T' wr qa qc es 67 #[.pointer (some ⟨b5, 0, none⟩)] (fun e => decide (e.sync ∈ zs)) h1 hqc1 hes (enters_of Try.func67 (by kernel_rfl) rfl) (fun e W hW => Purge1_q e b5 r zs W (by
        obtain ⟨f, _, hbb⟩ := hkeep W hW 3 _ (by decide) rfl
        exact hbb.cell 0) (hkeep W hW 2 _ (by decide) rfl)))
      have HBK := Lib.hid hback
      clear h1 hkeep hback
      go_wp2_with fail
      refine HD.out.mono ?_
      rintro e w3 ⟨rfl, hL3⟩
      have HL3 := Lib.hid (HBK.out _ _ [] hL3)
      simp only [List.set_cons_succ, List.set_cons_zero, List.append_nil] at HL3
      clear hL3 HBK HD q0 q1 fq0 fq1 zq x0 fx zx HK
      have hmle : (es.filter fun e => !decide (e.plain.sync ∈ zs)).length ≤ es.length := List.length_filter_le _ _
      have HFL : Hid (∃ fs, es.filter (fun e => !decide (e.plain.sync ∈ zs)) = fs) := ⟨_, rfl⟩
      obtain ⟨fs, hfs⟩ := HFL.out
      rw [hfs] at HL3 hmle ⊢
      have HFS := Lib.hid hfs
      clear hfs HFL
      obtain ⟨q0, q1, fq0, fq1, zq, _, _⟩ := HL3.out.c2 0 rfl
      go_wp2_with fail
      have HL4 := Lib.hid (HL3.out.set 0 rfl 1 (.slice qa fs.length qc))
      simp only [List.set_cons_succ, List.set_cons_zero, List.setIfInBounds_toArray] at HL4
      refine (count_q g _ _ _ _ (HL4.out.c2 0 rfl).2.1).mono ?_
      rintro e w' ⟨rfl, rfl⟩
      go_wp2
      go_ret
      unfold Purged
      rw [HFS.out]
      refine ⟨?_, Led.shutQ (l := []) (HL4.out.sel [0, 1] rfl (by decide))⟩
      rw [show ((es.length - fs.length : Nat) : Int) = (es.length : Int) - (fs.length : Int) by omega]
      rfl
end Go.Proofs.Ytihmbgdkllmkaaa

/-
  The calls of a queue, in a caller's ledger: the queue is one thing, the values of all entries another.
-/
namespace Go.Proofs.Ytihmbgdkllmkaaa
open Go.RowKit
set_option maxRecDepth 100000
set_option linter.unusedVariables false
set_option linter.unusedSimpArgs false

section
variable {T : List Nat} {w0 w w' : World} {l : List Thing} {g : Nat} {es : List ME}
theorem Led.valsInto {vs us : List MT} (h : Led T w0 w (l ++ [valsT us])) (j : Nat) (hj : l[j]? = some (valsT vs)) : Led T w0 w (l.set j (valsT (vs ++ us))) := by
  have hlt := (List.getElem?_eq_some_iff.1 hj).1
  have h1 : Led T w0 w ((l.take j ++ l.drop (j + 1)) ++ [valsT vs, valsT us]) := by
    refine h.reindex (fun i => if i < j then i else if i < l.length - 1 then i + 1 else if i = l.length - 1 then j else l.length) ?_ ?_
    · intro i t hi
      have hil := (List.getElem?_eq_some_iff.1 hi).1
      simp only [List.length_append, List.length_take, List.length_drop, List.length_cons, List.length_nil] at hil
      by_cases c1 : i < j
      · rw [if_pos c1]
        rw [List.getElem?_append_left (by simp; omega), List.getElem?_append_left (by simp; omega), List.getElem?_take_of_lt c1] at hi
        rw [List.getElem?_append_left (by omega)]; exact hi
      · rw [if_neg c1]
        by_cases c2 : i < l.length - 1
        · rw [if_pos c2]
          rw [List.getElem?_append_left (by simp; omega), List.getElem?_append_right (by simp; omega), List.getElem?_drop] at hi
          rw [List.getElem?_append_left (by omega)]
          rw [List.length_take, show j + 1 + (i - min j l.length) = i + 1 by omega] at hi
          exact hi
        · rw [if_neg c2]
          rw [List.getElem?_append_right (by simp; omega)] at hi
          by_cases c3 : i = l.length - 1
          · rw [if_pos c3, List.getElem?_append_left hlt, hj]
            rw [show i - (l.take j ++ l.drop (j + 1)).length = 0 by simp; omega] at hi
            simpa using hi
          · rw [if_neg c3, List.getElem?_append_right (Nat.le_refl _), Nat.sub_self]
            rw [show i - (l.take j ++ l.drop (j + 1)).length = 1 by simp; omega] at hi
            simpa using hi
    · intro a b ha hb hab
      simp only [List.length_append, List.length_take, List.length_drop, List.length_cons, List.length_nil] at ha hb
      split at hab <;> split at hab <;> (try split at hab) <;> (try split at hab) <;> (try split at hab) <;> (try split at hab) <;> omega
  have h2 := h1.valsJoin
  refine h2.reindex (fun i => if i < j then i else if i = j then l.length - 1 else i - 1) ?_ ?_
  · intro i t hi
    have hil := (List.getElem?_eq_some_iff.1 hi).1
    simp only [List.length_set] at hil
    by_cases c1 : i < j
    · rw [if_pos c1, List.getElem?_append_left (by simp; omega), List.getElem?_append_left (by simp; omega), List.getElem?_take_of_lt c1]
      rwa [List.getElem?_set_ne (by omega)] at hi
    · rw [if_neg c1]
      by_cases c2 : i = j
      · subst c2
        rw [if_pos rfl, List.getElem?_append_right (by simp; omega), show l.length - 1 - (l.take i ++ l.drop (i + 1)).length = 0 by simp; omega]
        rw [List.getElem?_set_self hlt] at hi
        simpa using hi
      · rw [if_neg c2, List.getElem?_append_left (by simp; omega), List.getElem?_append_right (by simp; omega), List.getElem?_drop, List.length_take, show j + 1 + (i - 1 - min j l.length) = i by omega]
        rwa [List.getElem?_set_ne (by omega)] at hi
  · intro a b ha hb hab
    simp only [List.length_set] at ha hb
    split at hab <;> split at hab <;> (try split at hab) <;> (try split at hab) <;> omega

/-- What is kept beside the thing i. -/
def Beside (l : List Thing) (i : Nat) (W : World) : Prop := ∀ j u, j ≠ i → l[j]? = some u → ∃ f, u.holds W f
theorem Led.qPush {vs : List MT} {xs : List ME} {a : Option Addr} {cap : Nat} (h : Led T w0 w l) (i j : Nat) (hi : l[i]? = some (queueT g es)) (hj : l[j]? = some (valsT vs)) (hij : i ≠ j) (hsrc : ∀ W, Beside l i W → EntsAt W a xs ∧ ∀ x ∈ xs, x.v.In W) (hn : xs.length ≤ 1099511627776) (hes : es.length ≤ 4096) :
    Calls Try.prog 14 #[.pointer (some ⟨g, 0, none⟩), .slice a xs.length cap] w fun e w' => ∃ k err ys, e = .returned (.int .i64 err) ∧ PushR es.length (xs.map ME.plain) k err ∧ ys.map ME.plain = (xs.map ME.plain).take k ∧ Led T w0 w' ((l.set i (queueT g (es ++ ys))).set j (valsT (vs ++ ys.map ME.v))) := by
  obtain ⟨T', h1, _, hk, hb⟩ := h.frameK i hi
  refine (Push_q T' w g es xs a cap h1 (fun W hW => hsrc W (hk W hW)) hn hes).mono ?_
  rintro e w' ⟨k, err, ys, rfl, hR, hp, hL⟩
  refine ⟨k, err, ys, rfl, hR, hp, (hb _ _ _ hL).valsInto j ?_⟩
  rwa [List.getElem?_set_ne hij]
theorem Led.qDrop (h : Led T w0 w l) (i : Nat) (hi : l[i]? = some (queueT g es)) (z : Int) (hes : es.length ≤ 1048576) :
    Calls Try.prog 18 #[.pointer (some ⟨g, 0, none⟩), .int .i64 z] w fun e w' => (∃ x, 0 ≤ z ∧ es[z.toNat]? = some x ∧ e = .returned (.tuple #[x.val, .bool true]) ∧ Led T w0 w' (l.set i (queueT g (es.eraseIdx z.toNat)))) ∨
      (¬ (0 ≤ z ∧ z < (es.length : Int)) ∧ e = .returned (.tuple #[ME.zero.val, .bool false]) ∧ Led T w0 w' (l.set i (queueT g es))) := by
  obtain ⟨T', h1, hb⟩ := h.frame1 i hi
  refine (Drop_q T' w g es z h1 hes).mono ?_
  rintro e w' (⟨x, h0, hx, rfl, hL⟩ | ⟨hn, rfl, hL⟩)
  · exact .inl ⟨x, h0, hx, rfl, hb _ _ _ hL⟩
  · exact .inr ⟨hn, rfl, hb _ _ _ hL⟩
theorem Led.qPurge {a : Option Addr} {cap : Nat} {zs : List Int} (h : Led T w0 w l) (i : Nat) (hi : l[i]? = some (queueT g es)) (hsrc : ∀ W, Beside l i W → IntsAt W a zs) (hes : es.length ≤ 1048576) (hzs : zs.length ≤ 1048576) :
    Calls Try.prog 23 #[.pointer (some ⟨g, 0, none⟩), .slice a zs.length cap] w fun e w' => e = .returned (.int .i64 ((es.length - (es.filter fun e => !decide (e.plain.sync ∈ zs)).length : Nat) : Int)) ∧ Led T w0 w' (l.set i (queueT g (es.filter fun e => !decide (e.plain.sync ∈ zs)))) := by
  obtain ⟨T', h1, _, hk, hb⟩ := h.frameK i hi
  refine (Purge_q T' w g es a cap zs h1 (fun W hW => hsrc W (hk W hW)) hes hzs).mono ?_
  rintro e w' ⟨rfl, hL⟩
  refine ⟨rfl, ?_⟩
  have := hb _ _ [] hL
  rwa [List.append_nil] at this
theorem Led.qAt1 {vs : List MT} (h : Led T w0 w l) (i j : Nat) (hi : l[i]? = some (queueT g es)) (hj : l[j]? = some (valsT vs)) (hes : ∀ e ∈ es, e.v ∈ vs ∧ e.v.nodes ≤ 256) (z : Int) :
    Calls Try.prog 31 #[.pointer (some ⟨g, 0, none⟩), .int .i64 z] w fun e w' => ∃ x c, e = .returned (.tuple #[x.val, .bool c]) ∧ AtR (es.map ME.plain) z x c ∧ Led T w0 w' (l.set j (valsT (vs ++ [x.v]))) := by
  refine (At_q w g es z (h.qAt i hi) (fun e he => ⟨h.valsIn j hj _ (hes e he).1, (hes e he).2⟩)).mono ?_
  rintro e w' ⟨x, c, rfl, hR, hin, hb, ht⟩
  exact ⟨x, c, rfl, hR, (h.valsNew (vs := [x.v]) ht (by simpa using hin) (by simpa using hb)).valsInto j hj⟩
theorem ents_box {W : World} {b c : Nat} {xs : List ME} {cs : Array Value} (hcs : cs = (entCells xs).toArray) (h : ∃ f, (box b c cs).holds W f) : EntsAt W (some ⟨b, 0, none⟩) xs := by
  obtain ⟨f, _, hb⟩ := h
  subst hcs
  intro i hi
  have hl := entCells_length xs
  have hc : ∀ q, q < 7 → W.cell? ⟨b, 0 + i * 7 + q, none⟩ = xs[i].cells[q]? := fun q hq => by
    rw [Nat.zero_add, hb.cell (i * 7 + q), ← entCells_get xs i hi q hq, List.getElem?_toArray]
  exact ⟨b, 0, rfl, hb.lt, hc 0 (by omega), hc 1 (by omega), hc 2 (by omega), hc 3 (by omega), hc 4 (by omega), hc 5 (by omega), hc 6 (by omega)⟩
theorem ints_box {W : World} {b c : Nat} {zs : List Int} {cs : Array Value} (hcs : cs = (zs.map (Value.int .i64)).toArray) (h : ∃ f, (box b c cs).holds W f) : IntsAt W (some ⟨b, 0, none⟩) zs := by
  obtain ⟨f, _, hb⟩ := h
  subst hcs
  intro i hi
  exact ⟨b, 0, rfl, hb.lt, by rw [Nat.zero_add, hb.cell i]; simp [hi]⟩
end
end Go.Proofs.Ytihmbgdkllmkaaa

/-
  The reference of layer 13 (betrothalref13/ref.go): Push, Pushes, Drop, Purge: what they make never turns.
-/
namespace Go.Proofs.Ytihmbgdkllmkaaa
open Go.RowKit Go.Shelf
set_option maxRecDepth 100000
set_option linter.unusedVariables false
set_option linter.unusedSimpArgs false

theorem Blk.src {w : World} {g : Nat} {t : TypeId} {cs : Array Value} (h : Blk w g t cs) : ∀ j u, cs.toList[j]? = some u → w.cell? ((⟨g, 0, none⟩ : Addr).add j) = some u := by
  intro j u hu
  rw [Addr.add_lit, Nat.zero_add, h.cell j]
  simpa using hu
theorem build_rq (a : Option Addr) (n c : Nat) (w : World) : (Instr.build 54 #[(0, .slice a n c)]).run Try.prog w = .ok (.agg #[.slice a n c]) w := run_build w 54 _ _ (by kernel_rfl)
theorem rowS_le {w : World} {e size n cap : Nat} {a : Option Addr} {xs : List Value} (h : rowS w e size (.slice a n cap) n xs) : n ≤ cap := by
  obtain ⟨a', c', hv, h1, _⟩ := rowS_val h
  injection hv with _ _ h3
  omega
theorem cells_one (x : ME) : ∀ u ∈ x.cells, u.oneCell' = true := by have := ents_one [x]; simpa [entCells] using this
/-- The reference's queue holds rs now, in memory that never turns. -/
def Grew (T : List Nat) (w : World) (P : World → Prop) (a : Option Addr) (rs : List ME) (w' : World) : Prop := ∃ P' : World → Prop, (∀ W, P' W → P W ∧ EntsAt W a rs) ∧ Led T w w' [stillT P']
theorem Grew.same {T : List Nat} {w w' : World} {P : World → Prop} {a : Option Addr} {rs : List ME} {rest : List Thing} (h : Led T w w' (stillT P :: rest)) (hP : ∀ W, P W → EntsAt W a rs) : Grew T w P a rs w' := ⟨P, fun W hW => ⟨hW, hP W hW⟩, Led.sub_end (l := [stillT P]) (m := rest) h⟩
theorem Grew.made {T : List Nat} {w w' : World} {P : World → Prop} {a : Option Addr} {cap n : Nat} {rs : List ME} (hn : rs.length = n) (h : Led T w w' [stillT P, rowT 27 7 (.slice a n cap) n (entCells rs)]) : Grew T w P a rs w' := by
  subst hn
  exact ⟨fun W => P W ∧ EntsAt W a rs, fun W hW => hW, Led.settle (l := [stillT P]) h 0 rfl (fun W f hW hf => ⟨hW, ents_of_rowS hf.2⟩)⟩
/-- What the reference's Push of one entry tells. -/
def PushedR (T : List Nat) (w : World) (P : World → Prop) (rs : List ME) (x : ME) (e : Ending) (w' : World) : Prop :=
  ∃ (err : Int) (a' : Option Addr) (cap' : Nat) (rs' : List ME), e = .returned (.tuple #[.agg #[.slice a' rs'.length cap'], .int .i64 err]) ∧ rs'.length ≤ cap' ∧ ((err = 2 ∧ ¬ x.plain.Ok ∧ rs' = rs) ∨ (err = 6 ∧ x.plain.Ok ∧ rs.length = 4096 ∧ rs' = rs) ∨ (err = 0 ∧ x.plain.Ok ∧ rs.length < 4096 ∧ rs' = rs ++ [x])) ∧ Grew T w P a' rs' w'
set_option maxHeartbeats 4000000 in
theorem Push_ref (T : List Nat) (w : World) (P : World → Prop) (a : Option Addr) (cap : Nat) (rs : List ME) (x : ME) (hcap : rs.length ≤ cap) (h : Led T w w [stillT P]) (hP : ∀ W, P W → EntsAt W a rs ∧ x.v.In W) (hnx : x.v.nodes ≤ 1048576) (hlen : rs.length ≤ 4096) :
    Calls Try.prog 107 #[.agg #[.slice a rs.length cap], x.val] w (PushedR T w P rs x) := by
  have HP := Lib.hid hP
  have HL0 := Lib.hid h
  have hbq := build_rq
  obtain ⟨i0, hi0, iz0, iz1, iz2⟩ := info_parts info_ent
  clear h hP
  simp only [ent_eq]
  go_enter Try.func107, Try.ntmps107
  go_wp2_with fail
  refine wp_calls_name ?_
  intro w1 hw1
  have HL1 := Lib.hid (HL0.out.al3 hw1)
  simp only [List.nil_append, List.cons_append] at HL1
  obtain ⟨b4, hb4⟩ : ∃ b, w.heap.size + 1 + 1 = b := ⟨_, rfl⟩
  rw [hb4] at HL1 ⊢
  obtain ⟨b3, hb3⟩ : ∃ b, w.heap.size + 1 = b := ⟨_, rfl⟩
  rw [hb3] at HL1 ⊢
  obtain ⟨b2, hb2⟩ : ∃ b, w.heap.size = b := ⟨_, rfl⟩
  rw [hb2] at HL1 ⊢
  clear hw1 hb4 hb3 hb2 HL0
  refine (Right_ent x w1 (HP.out _ (HL1.out.still 0 rfl)).2 hnx).mono ?_
  rintro e w3 ⟨cc, rfl, hcc, ht⟩
  have HL3 := Lib.hid (HL1.out.touch ht)
  have HCC := Lib.hid hcc
  clear hcc ht HL1
  obtain ⟨v0, _, hl2, _, _⟩ := HL3.out.c1 1 rfl
  obtain ⟨x0, x1, x2, x3, x4, x5, x6, _, hl3, _, _⟩ := HL3.out.c7 2 rfl
  obtain ⟨u0, uf, hl4, _, _⟩ := HL3.out.c1 3 rfl
  cases cc with
  | false =>
    go_wp2
    have HL4 := Lib.hid (HL3.out.set 3 rfl 0 (.slice a rs.length cap))
    simp only [List.set_cons_succ, List.set_cons_zero, List.setIfInBounds_toArray] at HL4
    obtain ⟨s0, _⟩ := HL4.out.c1 3 rfl
    refine bodyPost_ret (v := .tuple #[.agg #[.slice a rs.length cap], .int .i64 2]) (by simp [results, Try.results107, go_sem, s0]) rfl ?_
    exact ⟨2, a, cap, rs, rfl, hcap, .inl ⟨rfl, fun hk => (by have := HCC.out.2 hk; cases this), rfl⟩, Grew.same HL4.out (fun W hW => (HP.out W hW).1)⟩
  | true =>
    have HOK : Hid x.plain.Ok := HCC.out.1 rfl
    clear HCC
    by_cases hfull : rs.length = 4096
    · have hf1 : (4096 : Int) ≤ (rs.length : Int) := by omega
      have HFU := Lib.hid hfull
      clear hfull
      go_wp2
      have HL4 := Lib.hid (HL3.out.set 3 rfl 0 (.slice a rs.length cap))
      simp only [List.set_cons_succ, List.set_cons_zero, List.setIfInBounds_toArray] at HL4
      obtain ⟨s0, _⟩ := HL4.out.c1 3 rfl
      refine bodyPost_ret (v := .tuple #[.agg #[.slice a rs.length cap], .int .i64 6]) (by simp [results, Try.results107, go_sem, s0]) rfl ?_
      exact ⟨6, a, cap, rs, rfl, hcap, .inr (.inl ⟨rfl, HOK.out, HFU.out, rfl⟩), Grew.same HL4.out (fun W hW => (HP.out W hW).1)⟩
    · have hf1 : ¬ (4096 : Int) ≤ (rs.length : Int) := by omega
      have n1 := HL3.out.ne 1 3 rfl rfl (by decide)
      have n2 := Ne.symm n1
      have n3 := HL3.out.ne 2 3 rfl rfl (by decide)
      have n4 := Ne.symm n3
      go_wp2_with fail
      have HLa := Lib.hid ((HL3.out.empty 27 7).drew)
      have HLb := Lib.hid (((HL3.out.empty 27 7).alloc 27 #[.int .i64 x.sync, .int .i64 x.thread, .int .i64 x.branch, .int .i64 x.flag, .int .i64 x.v.kind, .int .i64 x.v.num, .slice x.v.addr x.v.parts.length x.v.cap]).drew)
      have HLc := Lib.hid ((((HL3.out.alloc 27 #[.int .i64 x.sync, .int .i64 x.thread, .int .i64 x.branch, .int .i64 x.flag, .int .i64 x.v.kind, .int .i64 x.v.num, .slice x.v.addr x.v.parts.length x.v.cap]).empty 27 7).drew).pick [0, 1, 2, 3, 5, 4] (by decide) (by simp))
      simp only [List.nil_append, List.cons_append, World.size_alloc, List.filterMap_cons, List.filterMap_nil, List.getElem?_cons_zero, List.getElem?_cons_succ] at HLa HLb HLc
      go_region_held3 (fun w' => w'.cell? ⟨b2, 0, none⟩ = some (.slice a rs.length cap) ∧ w'.cell? ⟨b3, 0, none⟩ = some (.int .i64 x.sync) ∧ w'.cell? ⟨b3, 1, none⟩ = some (.int .i64 x.thread) ∧ w'.cell? ⟨b3, 2, none⟩ = some (.int .i64 x.branch) ∧ w'.cell? ⟨b3, 3, none⟩ = some (.int .i64 x.flag) ∧ w'.cell? ⟨b3, 4, none⟩ = some (.int .i64 x.v.kind) ∧ w'.cell? ⟨b3, 5, none⟩ = some (.int .i64 x.v.num) ∧ w'.cell? ⟨b3, 6, none⟩ = some (.slice x.v.addr x.v.parts.length x.v.cap)) (go_keep) (first
        | (refine step_append_S _ (by rfl) (.tmp 15) (.tmp 17) 32 (by rfl) 27 i0 _ 7 72 Try.underlying32 hi0 iz0 iz1 iz2 rfl (by decide) (.slice (some ⟨w3.heap.size, 0, none⟩) 0 0) 0 [] (by rfl) (HLa.out.rowSAt 4 rfl) a rs.length cap (entCells rs) (by rfl) (entCells_length rs) (HP.out _ (HLa.out.still 0 rfl)).1.src (ents_one rs) (by simp only [maxLen]; omega) (by omega) ?_; intro a2 c2 w2 hown hgrow hat; simp only [Nat.zero_add, List.nil_append] at hown hat ⊢; have HL4 := Lib.hid (HLa.out.grownS 4 rfl hgrow hown hat); simp only [List.set_cons_succ, List.set_cons_zero] at HL4; obtain ⟨v0, _, hl2, _, _⟩ := HL4.out.c1 1 rfl; obtain ⟨x0, x1, x2, x3, x4, x5, x6, _, hl3, _, _⟩ := HL4.out.c7 2 rfl; obtain ⟨u0, uf, hl4, _, _⟩ := HL4.out.c1 3 rfl; clear hown hgrow hat)
        | (refine step_append_S _ (by rfl) (.tmp 15) (.tmp 17) 32 (by rfl) 27 i0 _ 7 72 Try.underlying32 hi0 iz0 iz1 iz2 rfl (by decide) (.slice (some ⟨w3.heap.size, 0, none⟩) 0 0) 0 [] (by rfl) (HLb.out.rowSAt 4 rfl) a rs.length cap (entCells rs) (by rfl) (entCells_length rs) (HP.out _ (HLb.out.still 0 rfl)).1.src (ents_one rs) (by simp only [maxLen]; omega) (by omega) ?_; intro a2 c2 w2 hown hgrow hat; simp only [Nat.zero_add, List.nil_append] at hown hat ⊢; have HL4 := Lib.hid (HLb.out.grownS 4 rfl hgrow hown hat); simp only [List.set_cons_succ, List.set_cons_zero] at HL4; obtain ⟨v0, _, hl2, _, _⟩ := HL4.out.c1 1 rfl; obtain ⟨x0, x1, x2, x3, x4, x5, x6, _, hl3, _, _⟩ := HL4.out.c7 2 rfl; obtain ⟨u0, uf, hl4, _, _⟩ := HL4.out.c1 3 rfl; clear hown hgrow hat)
        | (refine step_append_S _ (by rfl) (.tmp 15) (.tmp 17) 32 (by rfl) 27 i0 _ 7 72 Try.underlying32 hi0 iz0 iz1 iz2 rfl (by decide) (.slice (some ⟨w3.heap.size + 1, 0, none⟩) 0 0) 0 [] (by rfl) (HLc.out.rowSAt 4 rfl) a rs.length cap (entCells rs) (by rfl) (entCells_length rs) (HP.out _ (HLc.out.still 0 rfl)).1.src (ents_one rs) (by simp only [maxLen]; omega) (by omega) ?_; intro a2 c2 w2 hown hgrow hat; simp only [Nat.zero_add, List.nil_append] at hown hat ⊢; have HL4 := Lib.hid (HLc.out.grownS 4 rfl hgrow hown hat); simp only [List.set_cons_succ, List.set_cons_zero] at HL4; obtain ⟨v0, _, hl2, _, _⟩ := HL4.out.c1 1 rfl; obtain ⟨x0, x1, x2, x3, x4, x5, x6, _, hl3, _, _⟩ := HL4.out.c7 2 rfl; obtain ⟨u0, uf, hl4, _, _⟩ := HL4.out.c1 3 rfl; clear hown hgrow hat)
        | (refine step_append_S _ (by rfl) (.tmp 18) (.tmp 20) 32 (by rfl) 27 i0 _ 7 72 Try.underlying32 hi0 iz0 iz1 iz2 rfl (by decide) (.slice a2 rs.length c2) rs.length (entCells rs) (by rfl) ((HL4.out.alloc _ _).rowSAt 4 rfl) (some ⟨w2.heap.size, 0, none⟩) 1 1 x.cells (by rfl) rfl (.inr ⟨_, rfl, ((HL4.out.alloc _ _).box 5 rfl).src⟩) (cells_one x) (by simp only [maxLen]; omega) (by omega) ?_; intro a3 c3 w3 hown hgrow hat; have HL5 := Lib.hid ((HL4.out.alloc _ _).grownS 4 rfl hgrow hown hat); simp only [List.set_cons_succ, List.set_cons_zero, List.cons_append, List.nil_append] at HL5; obtain ⟨v0, _, hl2, _, _⟩ := HL5.out.c1 1 rfl; obtain ⟨x0, x1, x2, x3, x4, x5, x6, _, hl3, _, _⟩ := HL5.out.c7 2 rfl; obtain ⟨u0, uf, hl4, _, _⟩ := HL5.out.c1 3 rfl; clear hown hgrow hat)
        | (refine step_append_S _ (by rfl) (.tmp 18) (.tmp 20) 32 (by rfl) 27 i0 _ 7 72 Try.underlying32 hi0 iz0 iz1 iz2 rfl (by decide) (.slice a2 rs.length c2) rs.length (entCells rs) (by rfl) (HL4.out.rowSAt 4 rfl) (some ⟨_, 0, none⟩) 1 1 x.cells (by rfl) rfl (.inr ⟨_, rfl, (HL4.out.box 5 rfl).src⟩) (cells_one x) (by simp only [maxLen]; omega) (by omega) ?_; intro a3 c3 w3 hown hgrow hat; have HL5 := Lib.hid (HL4.out.grownS 4 rfl hgrow hown hat); simp only [List.set_cons_succ, List.set_cons_zero, List.cons_append, List.nil_append] at HL5; obtain ⟨v0, _, hl2, _, _⟩ := HL5.out.c1 1 rfl; obtain ⟨x0, x1, x2, x3, x4, x5, x6, _, hl3, _, _⟩ := HL5.out.c7 2 rfl; obtain ⟨u0, uf, hl4, _, _⟩ := HL5.out.c1 3 rfl; clear hown hgrow hat))
      all_goals go_wp2
      all_goals have HLF := Lib.hid (HL5.out.set 3 rfl 0 (.slice a3 (rs.length + 1) c3))
      all_goals simp only [List.set_cons_succ, List.set_cons_zero, List.setIfInBounds_toArray] at HLF
      all_goals obtain ⟨s0, _⟩ := HLF.out.c1 3 rfl
      all_goals refine bodyPost_ret (v := .tuple #[.agg #[.slice a3 (rs.length + 1) c3], .int .i64 0]) (by simp [results, Try.results107, go_sem, s0]) rfl ?_
      all_goals refine ⟨0, a3, c3, rs ++ [x], (by simp), (by have := rowS_le (HLF.out.rowSAt 4 rfl); simpa using this), .inr (.inr ⟨rfl, HOK.out, by omega, rfl⟩), Grew.made (cap := c3) (n := rs.length + 1) (by simp) ?_⟩
      all_goals rw [entCells_append, show entCells [x] = x.cells from (by simp [entCells])]
      all_goals exact HLF.out.sel [0, 4] rfl (by decide)
end Go.Proofs.Ytihmbgdkllmkaaa

/-
  The reference of layer 13 (betrothalref13/ref.go): Drop.
-/
namespace Go.Proofs.Ytihmbgdkllmkaaa
open Go.RowKit Go.Shelf
set_option maxRecDepth 100000
set_option linter.unusedVariables false
set_option linter.unusedSimpArgs false

theorem add_addE (a : Addr) (i j : Nat) : (a.add i).add j = a.add (i + j) := by
  unfold Addr.add
  by_cases hi : i = 0 <;> by_cases hj : j = 0 <;> simp [hi, hj, Nat.add_assoc]
theorem EntsAt.src_from {w : World} {a sa : Option Addr} {rs : List ME} {lo k : Nat} (h : EntsAt w a rs) (hk : k = 7) (hs : rs.length = lo ∨ sa = a.map (·.add (lo * k))) : rs.length - lo = 0 ∨ ∃ ad, sa = some ad ∧ ∀ j u, ((entCells rs).drop (lo * 7))[j]? = some u → w.cell? (ad.add j) = some u := by
  subst hk
  rcases hs with hs | rfl
  · exact .inl (by omega)
  · rcases h.src with h0 | ⟨ad, rfl, hc⟩
    · exact .inl (by omega)
    · refine .inr ⟨ad.add (lo * 7), rfl, fun j u hu => ?_⟩
      rw [add_addE]
      rw [List.getElem?_drop] at hu
      exact hc _ _ hu
theorem EntsAt.src_to {w : World} {a : Option Addr} {rs : List ME} {k : Nat} (h : EntsAt w a rs) (hk : k ≤ rs.length) : k = 0 ∨ ∃ ad, a = some ad ∧ ∀ j u, ((entCells rs).take (k * 7))[j]? = some u → w.cell? (ad.add j) = some u := by
  rcases h.src with h0 | ⟨ad, rfl, hc⟩
  · exact .inl (by omega)
  · refine .inr ⟨ad, rfl, fun j u hu => hc j u ?_⟩
    rw [List.getElem?_take] at hu
    split at hu
    · exact hu
    · cases hu
/-- What the reference's Drop tells. -/
def DroppedR (T : List Nat) (w : World) (P : World → Prop) (rs : List ME) (i : Int) (e : Ending) (w' : World) : Prop :=
  ∃ (a' : Option Addr) (cap' : Nat) (rs' : List ME) (x : ME) (c : Bool), e = .returned (.tuple #[.agg #[.slice a' rs'.length cap'], x.val, .bool c]) ∧ rs'.length ≤ cap' ∧ AtRef rs i x c ∧ rs' = (if c = true then rs.eraseIdx i.toNat else rs) ∧ Grew T w P a' rs' w'
set_option maxHeartbeats 4000000 in
theorem Drop_ref (T : List Nat) (w : World) (P : World → Prop) (a : Option Addr) (cap : Nat) (rs : List ME) (i : Int) (hcap : rs.length ≤ cap) (h : Led T w w [stillT P]) (hP : ∀ W, P W → EntsAt W a rs) (hlen : rs.length ≤ 1048576) :
    Calls Try.prog 71 #[.agg #[.slice a rs.length cap], .int .i64 i] w (DroppedR T w P rs i) := by
  have HP := Lib.hid hP
  have HL0 := Lib.hid h
  have hbq := build_rq
  clear h hP
  go_enter Try.func71, Try.ntmps71
  go_wp2_with fail
  refine wp_calls_name ?_
  intro w1 hw1
  have HL1 := Lib.hid (HL0.out.al3 hw1)
  simp only [List.nil_append, List.cons_append] at HL1
  obtain ⟨b5, hb5⟩ : ∃ b, w.heap.size + 1 + 1 = b := ⟨_, rfl⟩
  rw [hb5] at HL1 ⊢
  obtain ⟨b4, hb4⟩ : ∃ b, w.heap.size + 1 = b := ⟨_, rfl⟩
  rw [hb4] at HL1 ⊢
  obtain ⟨b2, hb2⟩ : ∃ b, w.heap.size = b := ⟨_, rfl⟩
  rw [hb2] at HL1 ⊢
  clear hw1 hb5 hb4 hb2 HL0
  refine (At_ref w1 a cap rs i (HP.out _ (HL1.out.still 0 rfl))).mono ?_
  rintro e w2 ⟨x, cc, rfl, hR, ht⟩
  have HL2 := Lib.hid (HL1.out.touch ht)
  have HR := Lib.hid hR
  clear hR ht HL1
  simp only [ent_eq]
  obtain ⟨v0, _, hl2, _, _⟩ := HL2.out.c1 1 rfl
  go_upto_region 2 with fail
  refine wp_name ?_
  intro w3 hw3
  have HL3 := Lib.hid (HL2.out.al1 hw3)
  simp only [List.nil_append, List.cons_append] at HL3
  obtain ⟨b7, hb7⟩ : ∃ b, w2.heap.size = b := ⟨_, rfl⟩
  rw [hb7] at HL3 ⊢
  clear hw3 hb7 HL2 v0 hl2
  obtain ⟨v0, _, hl2, _, _⟩ := HL3.out.c1 1 rfl
  obtain ⟨u0, uf, hl4, _, _⟩ := HL3.out.c1 2 rfl
  obtain ⟨y0, y1, y2, y3, y4, y5, y6, ⟨fy0, fy1, fy2, fy3, fy4, fy5, fy6⟩, hl5, _, _⟩ := HL3.out.c7 3 rfl
  obtain ⟨x0, x1, x2, x3, x4, x5, x6, _, hl7, _, _⟩ := HL3.out.c7 4 rfl
  have n1 := HL3.out.ne 1 2 rfl rfl (by decide)
  have n2 := HL3.out.ne 1 3 rfl rfl (by decide)
  have n3 := HL3.out.ne 2 3 rfl rfl (by decide)
  have n4 := HL3.out.ne 2 4 rfl rfl (by decide)
  have n5 := HL3.out.ne 3 4 rfl rfl (by decide)
  have m1 := Ne.symm n1
  have m2 := Ne.symm n2
  have m3 := Ne.symm n3
  have m4 := Ne.symm n4
  have m5 := Ne.symm n5
  cases cc with
  | false =>
    go_wp2_with fail
    go_region_held3 (fun w' => w'.cell? ⟨b2, 0, none⟩ = some (.slice a rs.length cap) ∧ w'.cell? ⟨b7, 0, none⟩ = some (.int .i64 x.sync) ∧ w'.cell? ⟨b7, 1, none⟩ = some (.int .i64 x.thread) ∧ w'.cell? ⟨b7, 2, none⟩ = some (.int .i64 x.branch) ∧ w'.cell? ⟨b7, 3, none⟩ = some (.int .i64 x.flag) ∧ w'.cell? ⟨b7, 4, none⟩ = some (.int .i64 x.v.kind) ∧ w'.cell? ⟨b7, 5, none⟩ = some (.int .i64 x.v.num) ∧ w'.cell? ⟨b7, 6, none⟩ = some (.slice x.v.addr x.v.parts.length x.v.cap)) (go_keep) (fail)
    go_wp2
    have HF := Lib.hid (((HL3.out.set 2 rfl 0 (.slice a rs.length cap)).setEnt 3 rfl x.sync x.thread x.branch x.flag x.v.kind x.v.num (.slice x.v.addr x.v.parts.length x.v.cap)).drew)
    simp only [List.set_cons_succ, List.set_cons_zero, List.setIfInBounds_toArray] at HF
    obtain ⟨q0, _⟩ := HF.out.c1 2 rfl
    obtain ⟨s0, s1, s2, s3, s4, s5, s6, _⟩ := HF.out.c7 3 rfl
    refine bodyPost_ret (v := .tuple #[.agg #[.slice a rs.length cap], x.val, .bool false]) (by simp [results, Try.results71, go_sem, q0, s0, s1, s2, s3, s4, s5, s6, ent_eq]) rfl ?_
    exact ⟨a, cap, rs, x, false, rfl, hcap, HR.out, by simp, Grew.same HF.out HP.out⟩
  | true =>
    obtain ⟨hi0, hxi⟩ : 0 ≤ i ∧ rs[i.toNat]? = some x := by
      rcases HR.out with ⟨_, h1, h2⟩ | ⟨h, _⟩
      · exact ⟨h1, h2⟩
      · cases h
    obtain ⟨k, rfl⟩ := Int.eq_ofNat_of_zero_le hi0
    have hk : k < rs.length := (List.getElem?_eq_some_iff.1 hxi).1
    obtain ⟨i0, hi0', iz0, iz1, iz2⟩ := info_parts info_ent
    obtain ⟨sa, hsa, hsl2⟩ := run_slice_from Try.underlying32 hi0' a rs.length cap (k + 1) (by omega) hcap
    have hsl1 := fun W => run_slice_to Try.underlying32 hi0' a rs.length cap k (by omega) W
    have HSA := Lib.hid hsa
    clear hsa hxi hi0
    rw [show (((k + 1 : Nat)) : Int) = (k : Int) + 1 by omega] at hsl2
    have hwk : IntKind.i64.wrap ((k : Int) + 1) = (k : Int) + 1 := IntWalk.i64_in _ (by omega)
    have HLE := Lib.hid (HL3.out.empty 27 7).drew
    simp only [List.nil_append, List.cons_append] at HLE
    have HTL : Hid (((entCells rs).take (k * 7)).length = k * 7) := by unfold Hid; rw [List.length_take, entCells_length]; omega
    have HLN : Hid (((entCells rs).drop ((k + 1) * 7)).length = (rs.length - (k + 1)) * 7) := by
      unfold Hid
      rw [List.length_drop, entCells_length, Nat.sub_mul]
    go_wp2_with fail
    go_region_held3 (fun w' => w'.cell? ⟨b2, 0, none⟩ = some (.slice a rs.length cap) ∧ w'.cell? ⟨b7, 0, none⟩ = some (.int .i64 x.sync) ∧ w'.cell? ⟨b7, 1, none⟩ = some (.int .i64 x.thread) ∧ w'.cell? ⟨b7, 2, none⟩ = some (.int .i64 x.branch) ∧ w'.cell? ⟨b7, 3, none⟩ = some (.int .i64 x.flag) ∧ w'.cell? ⟨b7, 4, none⟩ = some (.int .i64 x.v.kind) ∧ w'.cell? ⟨b7, 5, none⟩ = some (.int .i64 x.v.num) ∧ w'.cell? ⟨b7, 6, none⟩ = some (.slice x.v.addr x.v.parts.length x.v.cap)) (go_keep) (first
      | (refine step_append_S _ (by rfl) (.tmp 19) (.tmp 23) 32 (by rfl) 27 i0 _ 7 72 Try.underlying32 hi0' iz0 iz1 iz2 rfl (by decide) (.slice (some ⟨w3.heap.size, 0, none⟩) 0 0) 0 [] (by rfl) (HLE.out.rowSAt 5 rfl) a k cap ((entCells rs).take (k * 7)) (by rfl) HTL.out ((HP.out _ (HLE.out.still 0 rfl)).src_to (by omega)) (fun u hu => ents_one rs u (List.mem_of_mem_take hu)) (by simp only [maxLen]; omega) (by omega) ?_; intro a8 c8 w8 hown hgrow hat; simp only [Nat.zero_add, List.nil_append] at hown hat ⊢; have HL8 := Lib.hid (HLE.out.grownS 5 rfl hgrow hown hat); simp only [List.set_cons_succ, List.set_cons_zero] at HL8; clear hown hgrow hat v0 hl2 u0 uf hl4 y0 y1 y2 y3 y4 y5 y6 fy0 fy1 fy2 fy3 fy4 fy5 fy6 hl5 x0 x1 x2 x3 x4 x5 x6 hl7; obtain ⟨v0, _, hl2, _, _⟩ := HL8.out.c1 1 rfl; obtain ⟨u0, uf, hl4, _, _⟩ := HL8.out.c1 2 rfl; obtain ⟨y0, y1, y2, y3, y4, y5, y6, ⟨fy0, fy1, fy2, fy3, fy4, fy5, fy6⟩, hl5, _, _⟩ := HL8.out.c7 3 rfl; obtain ⟨x0, x1, x2, x3, x4, x5, x6, _, hl7, _, _⟩ := HL8.out.c7 4 rfl)
      | (refine step_append_S _ (by rfl) (.tmp 24) (.tmp 29) 32 (by rfl) 27 i0 _ 7 72 Try.underlying32 hi0' iz0 iz1 iz2 rfl (by decide) (.slice a8 k c8) k ((entCells rs).take (k * 7)) (by rfl) (HL8.out.rowSAt 5 rfl) sa (rs.length - (k + 1)) (cap - (k + 1)) ((entCells rs).drop ((k + 1) * 7)) (by rfl) HLN.out ((HP.out _ (HL8.out.still 0 rfl)).src_from iz1 HSA.out) (fun u hu => ents_one rs u (List.mem_of_mem_drop hu)) (by simp only [maxLen]; omega) (by omega) ?_; intro a9 c9 w9 hown hgrow hat; have HL9 := Lib.hid (HL8.out.grownS 5 rfl hgrow hown hat); simp only [List.set_cons_succ, List.set_cons_zero] at HL9; clear hown hgrow hat v0 hl2 u0 uf hl4 y0 y1 y2 y3 y4 y5 y6 fy0 fy1 fy2 fy3 fy4 fy5 fy6 hl5 x0 x1 x2 x3 x4 x5 x6 hl7; obtain ⟨v0, _, hl2, _, _⟩ := HL9.out.c1 1 rfl; obtain ⟨u0, uf, hl4, _, _⟩ := HL9.out.c1 2 rfl; obtain ⟨y0, y1, y2, y3, y4, y5, y6, ⟨fy0, fy1, fy2, fy3, fy4, fy5, fy6⟩, hl5, _, _⟩ := HL9.out.c7 3 rfl; obtain ⟨x0, x1, x2, x3, x4, x5, x6, _, hl7, _, _⟩ := HL9.out.c7 4 rfl))
    have hel : k + (rs.length - (k + 1)) = (rs.eraseIdx k).length := by rw [List.length_eraseIdx_of_lt hk]; omega
    have hec : (entCells rs).take (k * 7) ++ (entCells rs).drop ((k + 1) * 7) = entCells (rs.eraseIdx k) := by rw [List.eraseIdx_eq_take_drop_succ, entCells_append, entCells_take, entCells_drop]
    go_wp2
    have HF := Lib.hid (((HL9.out.set 2 rfl 0 (.slice a9 (k + (rs.length - (k + 1))) c9)).setEnt 3 rfl x.sync x.thread x.branch x.flag x.v.kind x.v.num (.slice x.v.addr x.v.parts.length x.v.cap)))
    simp only [List.set_cons_succ, List.set_cons_zero, List.setIfInBounds_toArray] at HF
    obtain ⟨q0, _⟩ := HF.out.c1 2 rfl
    obtain ⟨s0, s1, s2, s3, s4, s5, s6, _⟩ := HF.out.c7 3 rfl
    refine bodyPost_ret (v := .tuple #[.agg #[.slice a9 (k + (rs.length - (k + 1))) c9], x.val, .bool true]) (by simp [results, Try.results71, go_sem, q0, s0, s1, s2, s3, s4, s5, s6, ent_eq]) rfl ?_
    refine ⟨a9, c9, rs.eraseIdx k, x, true, by rw [hel], ?_, HR.out, by simp, Grew.made (cap := c9) hel.symm ?_⟩
    · have := rowS_le (HF.out.rowSAt 5 rfl)
      rwa [hel] at this
    · rw [← hec]
      exact HF.out.sel [0, 5] rfl (by decide)
end Go.Proofs.Ytihmbgdkllmkaaa

/-
  The reference of layer 13 (betrothalref13/ref.go): Pushes.
-/
namespace Go.Proofs.Ytihmbgdkllmkaaa
open Go.RowKit Go.Shelf
set_option maxRecDepth 100000
set_option linter.unusedVariables false
set_option linter.unusedSimpArgs false

theorem Led.rPush {T : List Nat} {w0 w : World} {l : List Thing} {P : World → Prop} (h : Led T w0 w l) (j : Nat) (hj : l[j]? = some (stillT P)) (a : Option Addr) (cap : Nat) (rs : List ME) (x : ME) (hcap : rs.length ≤ cap) (hP : ∀ W, P W → EntsAt W a rs ∧ x.v.In W) (hnx : x.v.nodes ≤ 1048576) (hlen : rs.length ≤ 4096) :
    Calls Try.prog 107 #[.agg #[.slice a rs.length cap], x.val] w fun e w' => ∃ (err : Int) (a' : Option Addr) (cap' : Nat) (rs' : List ME), e = .returned (.tuple #[.agg #[.slice a' rs'.length cap'], .int .i64 err]) ∧ rs'.length ≤ cap' ∧ ((err = 2 ∧ ¬ x.plain.Ok ∧ rs' = rs) ∨ (err = 6 ∧ x.plain.Ok ∧ rs.length = 4096 ∧ rs' = rs) ∨ (err = 0 ∧ x.plain.Ok ∧ rs.length < 4096 ∧ rs' = rs ++ [x])) ∧
      ∃ P' : World → Prop, (∀ W, P' W → P W ∧ EntsAt W a' rs') ∧ Led T w0 w' (l.set j (stillT P')) := by
  obtain ⟨T', h1, hb⟩ := h.frame1 j hj
  refine (Push_ref T' w P a cap rs x hcap h1 hP hnx hlen).mono ?_
  rintro e w' ⟨err, a', cap', rs', rfl, hcp, hc, P', hP', hL⟩
  exact ⟨err, a', cap', rs', rfl, hcp, hc, P', hP', hb _ _ [] hL⟩
/-- What the reference's Pushes tells. -/
def PushedRs (T : List Nat) (w : World) (P : World → Prop) (rs xs : List ME) (e : Ending) (w' : World) : Prop :=
  ∃ (k : Nat) (err : Int) (a' : Option Addr) (cap' : Nat), e = .returned (.tuple #[.agg #[.slice a' (rs ++ xs.take k).length cap'], .int .i64 err]) ∧ (rs ++ xs.take k).length ≤ cap' ∧ PushR rs.length (xs.map ME.plain) k err ∧ Grew T w P a' (rs ++ xs.take k) w'
theorem PushR.unique {n : Nat} {xs : List PE} {k k' : Nat} {err err' : Int} (h : PushR n xs k err) (h' : PushR n xs k' err') : k = k' ∧ err = err' := by
  obtain ⟨h1, h2, h3, h4⟩ := h
  obtain ⟨g1, g2, g3, g4⟩ := h'
  have hk : k = k' := by
    rcases h4 with ⟨_, rfl⟩ | ⟨hlt, h4⟩
    · rcases g4 with ⟨_, rfl⟩ | ⟨glt, ⟨_, g⟩ | ⟨_, _, g⟩⟩
      · rfl
      · exact absurd (h1 k' glt glt) g
      · omega
    · rcases g4 with ⟨_, rfl⟩ | ⟨glt, g4⟩
      · rcases h4 with ⟨_, g⟩ | ⟨_, _, g⟩
        · exact absurd (g1 k hlt hlt) g
        · omega
      · by_cases h5 : k < k'
        · rcases h4 with ⟨_, g⟩ | ⟨_, _, g⟩
          · exact absurd (g1 k hlt h5) g
          · omega
        · by_cases h6 : k' < k
          · rcases g4 with ⟨_, g⟩ | ⟨_, _, g⟩
            · exact absurd (h1 k' glt h6) g
            · omega
          · omega
  subst hk
  refine ⟨rfl, ?_⟩
  rcases h4 with ⟨rfl, h5⟩ | ⟨hlt, ⟨rfl, h5⟩ | ⟨rfl, h5, _⟩⟩ <;> rcases g4 with ⟨rfl, g5⟩ | ⟨glt, ⟨rfl, g5⟩ | ⟨rfl, g5, _⟩⟩ <;> first | rfl | omega | exact absurd h5 g5 | exact absurd g5 h5
set_option maxHeartbeats 4000000 in
theorem Pushes_ref (T : List Nat) (w : World) (P : World → Prop) (a xa : Option Addr) (cap xc : Nat) (rs xs : List ME) (hcap : rs.length ≤ cap) (h : Led T w w [stillT P]) (hP : ∀ W, P W → EntsAt W a rs ∧ EntsAt W xa xs ∧ ∀ x ∈ xs, x.v.In W) (hnx : ∀ x ∈ xs, x.v.nodes ≤ 1048576) (hlen : rs.length ≤ 4096) (hxl : xs.length ≤ 1099511627776) :
    Calls Try.prog 70 #[.agg #[.slice a rs.length cap], .slice xa xs.length xc] w (PushedRs T w P rs xs) := by
  have HP := Lib.hid hP
  have HN := Lib.hid hnx
  have HL0 := Lib.hid h
  clear h hP hnx
  go_enter Try.func70, Try.ntmps70
  go_wp2_with fail
  refine wp_name ?_
  intro w1 hw1
  have HL1 := Lib.hid (HL0.out.al2 hw1)
  simp only [List.nil_append, List.cons_append] at HL1
  obtain ⟨b4, hb4⟩ : ∃ b, w.heap.size + 1 = b := ⟨_, rfl⟩
  rw [hb4] at HL1 ⊢
  obtain ⟨b2, hb2⟩ : ∃ b, w.heap.size = b := ⟨_, rfl⟩
  rw [hb2] at HL1 ⊢
  clear hw1 hb4 hb2 HL0
  go_loopw [6] (fun i wr => ∃ (j : Nat) (a' : Option Addr) (cap' : Nat) (P' : World → Prop), i = .int .i64 (j : Int) ∧ j ≤ xs.length ∧ rs.length + j ≤ 4096 ∧ rs.length + j ≤ cap' ∧ Hid (∀ i (h : i < (xs.map ME.plain).length), i < j → (xs.map ME.plain)[i].Ok) ∧ Hid (∀ W, P' W → P W ∧ EntsAt W a' (rs ++ xs.take j)) ∧
    Hid (Led T w wr [stillT P', box b2 54 #[.slice a' (rs.length + j) cap'], box b4 54 #[.slice none 0 0]])) (fun i _ => xs.length - (intOf i).toNat)
  case atStart => exact ⟨0, a, cap, P, rfl, Nat.zero_le _, by omega, by omega, by unfold Hid; intro i _ h; omega, by unfold Hid; intro W hW; exact ⟨hW, by simpa using (HP.out W hW).1⟩, HL1⟩
  case round =>
    obtain ⟨j, a1, cap1, P1, rfl, hj, hj2, hjc, HO, HPJ, HK⟩ := hrel
    clear HL1
    have hj0 : (0 : Int) ≤ (j : Int) := by omega
    have hlj : (rs ++ xs.take j).length = rs.length + j := by simp; omega
    obtain ⟨v0, vf, hl2, _, _⟩ := HK.out.c1 1 rfl
    obtain ⟨u0, uf, hl4, _, _⟩ := HK.out.c1 2 rfl
    by_cases hjl : j < xs.length
    · have hjl' : (j : Int) < (xs.length : Int) := by omega
      obtain ⟨b, o, rfl, hb, p0, p1, p2, p3, p4, p5, p6⟩ := (HP.out _ (HPJ.out _ (HK.out.still 0 rfl)).1).2.1 j hjl
      have HP2 : Hid (∀ W, P1 W → xs[j].v.In W ∧ EntAt W b (o + j * 7) xs[j]) := fun W hW => by
        obtain ⟨_, h2, h3⟩ := HP.out W (HPJ.out W hW).1
        obtain ⟨b', o', hbo, _, he⟩ := h2 j hjl
        injection hbo with hbo
        injection hbo with h4 h5
        subst h4 h5
        exact ⟨h3 _ (List.getElem_mem hjl), he⟩
      have HXN := Lib.hid (HN.out _ (List.getElem_mem hjl))
      have HXT : Hid (xs.take (j + 1) = xs.take j ++ [xs[j]]) := by unfold Hid; simp
      have HXJ : Hid ((xs.map ME.plain)[j]'(by simpa using hjl) = xs[j].plain) := by unfold Hid; simp
      generalize xs[j] = x at p0 p1 p2 p3 p4 p5 p6 HP2 HXN HXT HXJ
      have HPU : Hid (∀ rest W, Led T w W (stillT P1 :: rest) → Calls Try.prog 107 #[.agg #[.slice a1 (rs.length + j) cap1], x.val] W fun e w' => ∃ (err : Int) (a' : Option Addr) (cap' : Nat) (rs' : List ME), e = .returned (.tuple #[.agg #[.slice a' rs'.length cap'], .int .i64 err]) ∧ rs'.length ≤ cap' ∧ ((err = 2 ∧ ¬ x.plain.Ok ∧ rs' = rs ++ xs.take j) ∨ (err = 6 ∧ x.plain.Ok ∧ rs.length + j = 4096 ∧ rs' = rs ++ xs.take j) ∨ (err = 0 ∧ x.plain.Ok ∧ rs.length + j < 4096 ∧ rs' = rs ++ xs.take j ++ [x])) ∧
          ∃ P' : World → Prop, (∀ W, P' W → P1 W ∧ EntsAt W a' rs') ∧ Led T w w' (stillT P' :: rest)) := by
        intro rest W hW
        have h := hW.rPush 0 rfl a1 cap1 (rs ++ xs.take j) x (by omega) (fun W hW => ⟨(HPJ.out W hW).2, (HP2.out W hW).1⟩) HXN.out (by omega)
        rw [hlj] at h
        exact h
      simp only [ent_eq] at HPU
      have HKa := Lib.hid HK.out.drew
      have HKb := Lib.hid (HK.out.alloc 54 #[.slice none 0 0]).drew
      simp only [List.nil_append, List.cons_append] at HKb
      go_wp2_with fail
      go_region_held3 (fun w' => w'.cell? ⟨b2, 0, none⟩ = some (.slice a1 (rs.length + j) cap1) ∧ w'.cell? ⟨b, o + j * 7, none⟩ = some (.int .i64 x.sync) ∧ w'.cell? ⟨b, o + j * 7 + 1, none⟩ = some (.int .i64 x.thread) ∧ w'.cell? ⟨b, o + j * 7 + 2, none⟩ = some (.int .i64 x.branch) ∧ w'.cell? ⟨b, o + j * 7 + 3, none⟩ = some (.int .i64 x.flag) ∧ w'.cell? ⟨b, o + j * 7 + 4, none⟩ = some (.int .i64 x.v.kind) ∧ w'.cell? ⟨b, o + j * 7 + 5, none⟩ = some (.int .i64 x.v.num) ∧ w'.cell? ⟨b, o + j * 7 + 6, none⟩ = some (.slice x.v.addr x.v.parts.length x.v.cap)) (go_keep) (first
        | (go_at_call 107; refine (HPU.out _ _ HKa.out).mono ?_; rintro e w2 ⟨err, a', cap', rs', rfl, hcp, hc, P', hP', hL⟩; have HL2 := Lib.hid hL; have HC := Lib.hid hc; have HPP := Lib.hid hP'; clear hL hc hP' v0 hl2 p0 p1 p2 p3 p4 p5 p6; obtain ⟨v0, vf, hl2, _, _⟩ := HL2.out.c1 1 rfl; obtain ⟨p0, p1, p2, p3, p4, p5, p6⟩ := (HP2.out _ (HPP.out _ (HL2.out.still 0 rfl)).1).2; have zb : b < w2.heap.size := World.block_lt_of_cell? _ _ p0; have m1 : b2 ≠ w2.heap.size := (by omega); have m2 := Ne.symm m1; have m3 : b ≠ w2.heap.size := (by omega); have m4 := Ne.symm m3)
        | (go_at_call 107; refine (HPU.out _ _ HKb.out).mono ?_; rintro e w2 ⟨err, a', cap', rs', rfl, hcp, hc, P', hP', hL⟩; have HL2 := Lib.hid hL; have HC := Lib.hid hc; have HPP := Lib.hid hP'; clear hL hc hP' v0 hl2 p0 p1 p2 p3 p4 p5 p6; obtain ⟨v0, vf, hl2, _, _⟩ := HL2.out.c1 1 rfl; obtain ⟨p0, p1, p2, p3, p4, p5, p6⟩ := (HP2.out _ (HPP.out _ (HL2.out.still 0 rfl)).1).2; have zb : b < w2.heap.size := World.block_lt_of_cell? _ _ p0; obtain ⟨c0, cf, cl, _, _⟩ := HL2.out.c1 3 rfl; have m1 := HL2.out.ne 1 3 rfl rfl (by decide); have m2 := Ne.symm m1; have m3 : b ≠ wr.heap.size := (by omega); have m4 := Ne.symm m3))
      all_goals rename_i hHeld
      all_goals clear hHeld
      all_goals first
        | (have HL3 := Lib.hid (HL2.out.alloc 54 #[.slice a' rs'.length cap']); obtain ⟨w5, hw5⟩ : ∃ w5, w2.alloc (.cells #[.slice a' rs'.length cap'] 54) = w5 := ⟨_, rfl⟩; rw [hw5] at HL3 ⊢; obtain ⟨b7, hb7⟩ : ∃ b, w2.heap.size = b := ⟨_, rfl⟩; rw [hb7] at HL3 ⊢; clear hw5 hb7)
        | (have HL3 := Lib.hid (HL2.out.set 3 rfl 0 (.slice a' rs'.length cap')); obtain ⟨w5, hw5⟩ : ∃ w5, w2.setCell ⟨wr.heap.size, 0, none⟩ (.slice a' rs'.length cap') = w5 := ⟨_, rfl⟩; rw [hw5] at HL3 ⊢; obtain ⟨b7, hb7⟩ : ∃ b, wr.heap.size = b := ⟨_, rfl⟩; rw [hb7] at HL3 ⊢; clear hw5 hb7)
      all_goals
        simp only [List.nil_append, List.cons_append, List.set_cons_zero, List.set_cons_succ, List.setIfInBounds_toArray] at HL3
        clear HL2 v0 hl2 p0 p1 p2 p3 p4 p5 p6 HKa HKb HPU u0 uf hl4
        obtain ⟨v0, vf, hl2, _, _⟩ := HL3.out.c1 1 rfl
        obtain ⟨u0, uf, hl4, _, _⟩ := HL3.out.c1 2 rfl
        obtain ⟨o0, of, hl7, _, _⟩ := HL3.out.c1 3 rfl
        rcases HC.out with ⟨rfl, hok, rfl⟩ | ⟨rfl, hok, hfu, rfl⟩ | ⟨rfl, hok, hfu, rfl⟩
        · rw [hlj] at HL3
          clear HC
          go_wp2
          have HLF := Lib.hid (HL3.out.set 2 rfl 0 (.slice a1 (rs.length + j) cap1))
          simp only [List.set_cons_succ, List.set_cons_zero, List.setIfInBounds_toArray] at HLF
          obtain ⟨s0, _⟩ := HLF.out.c1 2 rfl
          refine bodyPost_ret (v := .tuple #[.agg #[.slice a1 (rs.length + j) cap1], .int .i64 2]) (by simp [results, Try.results70, go_sem, s0]) rfl ?_
          exact ⟨j, 2, a1, cap1, by rw [hlj], by omega, ⟨HO.out, by omega, by simp; omega, .inr ⟨by simp; omega, .inl ⟨rfl, by rw [HXJ.out]; exact hok⟩⟩⟩, P', fun W hW => HPJ.out W (HPP.out W hW).1, Led.sub_end (l := [_]) (m := [_, _, _]) HLF.out⟩
        · rw [hlj] at HL3
          clear HC
          have HFU := Lib.hid hfu
          clear hfu
          go_wp2
          have HLF := Lib.hid (HL3.out.set 2 rfl 0 (.slice a1 (rs.length + j) cap1))
          simp only [List.set_cons_succ, List.set_cons_zero, List.setIfInBounds_toArray] at HLF
          obtain ⟨s0, _⟩ := HLF.out.c1 2 rfl
          refine bodyPost_ret (v := .tuple #[.agg #[.slice a1 (rs.length + j) cap1], .int .i64 6]) (by simp [results, Try.results70, go_sem, s0]) rfl ?_
          exact ⟨j, 6, a1, cap1, by rw [hlj], by omega, ⟨HO.out, by omega, by simp; omega, .inr ⟨by simp; omega, .inr ⟨rfl, by rw [HXJ.out]; exact hok, HFU.out⟩⟩⟩, P', fun W hW => HPJ.out W (HPP.out W hW).1, Led.sub_end (l := [_]) (m := [_, _, _]) HLF.out⟩
        · have hlj2 : (rs ++ xs.take j ++ [x]).length = rs.length + (j + 1) := by simp; omega
          rw [hlj2] at HL3 o0
          rw [List.append_assoc, ← HXT.out] at HPP
          have HO2 : Hid (∀ i (h : i < (xs.map ME.plain).length), i < j + 1 → (xs.map ME.plain)[i].Ok) := by
            unfold Hid
            intro i h hi
            by_cases hij : i < j
            · exact HO.out i h hij
            · obtain rfl : i = j := by omega
              rw [HXJ.out]; exact hok
          clear HC
          rw [hlj2]
          have HLF : Hid (Led T w (w5.setCell ⟨b2, 0, none⟩ (.slice a' (rs.length + (j + 1)) cap')) [stillT P', box b2 54 #[.slice a' (rs.length + (j + 1)) cap'], box b4 54 #[.slice none 0 0]]) :=
            (HL3.out.set 1 rfl 0 (.slice a' (rs.length + (j + 1)) cap')).sel [0, 1, 2] rfl (by decide)
          go_wp2
          go_roundw
          case rel => exact ⟨j + 1, a', cap', P', by go_num, by omega, by omega, by omega, HO2, fun W hW => ⟨(HPJ.out W (HPP.out W hW).1).1, (HPP.out W hW).2⟩, HLF⟩
          case measure => simp [intOf]; omega
    · have hjl' : ¬ (j : Int) < (xs.length : Int) := by omega
      obtain rfl : j = xs.length := by omega
      go_wp2
      have HLF := Lib.hid (HK.out.set 2 rfl 0 (.slice a1 (rs.length + xs.length) cap1))
      simp only [List.set_cons_succ, List.set_cons_zero, List.setIfInBounds_toArray] at HLF
      obtain ⟨s0, _⟩ := HLF.out.c1 2 rfl
      refine bodyPost_ret (v := .tuple #[.agg #[.slice a1 (rs.length + xs.length) cap1], .int .i64 0]) (by simp [results, Try.results70, go_sem, s0]) rfl ?_
      exact ⟨xs.length, 0, a1, cap1, by rw [hlj], by omega, ⟨HO.out, by omega, by simp, .inl ⟨rfl, by simp⟩⟩, P1, HPJ.out, Led.sub_end (l := [_]) (m := [_, _]) HLF.out⟩
end Go.Proofs.Ytihmbgdkllmkaaa

/-
  The reference of layer 15 (betrothalref15/ref.go): Wait, Next: what they make never turns.
-/
namespace Go.Proofs.Ytihmbgdkllmkaaa
open Go.RowKit Go.Shelf
set_option maxRecDepth 100000
set_option linter.unusedVariables false
set_option linter.unusedSimpArgs false

theorem Led.rDrop' {T : List Nat} {w0 w : World} {l : List Thing} {P : World → Prop} (h : Led T w0 w l) (j : Nat) (hj : l[j]? = some (stillT P)) (a : Option Addr) (cap : Nat) (rs : List ME) (i : Int) (hcap : rs.length ≤ cap) (hP : ∀ W, P W → EntsAt W a rs) (hlen : rs.length ≤ 1048576) :
    Calls Try.prog 71 #[.agg #[.slice a rs.length cap], .int .i64 i] w fun e w' => ∃ (a' : Option Addr) (cap' : Nat) (rs' : List ME) (x : ME) (c : Bool), e = .returned (.tuple #[.agg #[.slice a' rs'.length cap'], x.val, .bool c]) ∧ rs'.length ≤ cap' ∧ AtRef rs i x c ∧ rs' = (if c = true then rs.eraseIdx i.toNat else rs) ∧ ∃ P' : World → Prop, (∀ W, P' W → P W ∧ EntsAt W a' rs') ∧ Led T w0 w' (l.set j (stillT P')) := by
  obtain ⟨T', h1, hb⟩ := h.frame1 j hj
  refine (Drop_ref T' w P a cap rs i hcap h1 hP hlen).mono ?_
  rintro e w' ⟨a', cap', rs', x, c, rfl, hc, hR, hrs, P', hP', hL⟩
  exact ⟨a', cap', rs', x, c, rfl, hc, hR, hrs, P', hP', hb _ _ [] hL⟩
/-- What the reference's Wait tells. -/
def WaitedR (T : List Nat) (w : World) (P : World → Prop) (cell : Int) (rs : List ME) (x : ME) (e : Ending) (w' : World) : Prop :=
  ∃ (err : Int) (a' : Option Addr) (cap' : Nat) (rs' : List ME), e = .returned (.tuple #[.agg #[.int .i64 cell, .slice a' rs'.length cap'], .int .i64 err]) ∧ rs'.length ≤ cap' ∧ ((err = 2 ∧ ¬ x.plain.Ok ∧ rs' = rs) ∨ (err = 6 ∧ x.plain.Ok ∧ rs.length = 4096 ∧ rs' = rs) ∨ (err = 0 ∧ x.plain.Ok ∧ rs.length < 4096 ∧ rs' = rs ++ [x])) ∧ Grew T w P a' rs' w'
set_option maxHeartbeats 2000000 in
theorem Wait_ref15 (T : List Nat) (w : World) (P : World → Prop) (cell : Int) (a : Option Addr) (cap : Nat) (rs : List ME) (x : ME) (hcap : rs.length ≤ cap) (h : Led T w w [stillT P]) (hP : ∀ W, P W → EntsAt W a rs ∧ x.v.In W) (hnx : x.v.nodes ≤ 1048576) (hlen : rs.length ≤ 4096) :
    Calls Try.prog 93 #[.agg #[.int .i64 cell, .slice a rs.length cap], x.val] w (WaitedR T w P cell rs x) := by
  have HP := Lib.hid hP
  have HL0 := Lib.hid h
  clear h hP
  simp only [ent_eq]
  go_enter Try.func93, Try.ntmps93
  go_wp2_with fail
  refine wp_calls_name ?_
  intro w1 hw1
  have HL1 := Lib.hid (HL0.out.al3 hw1)
  simp only [List.nil_append, List.cons_append] at HL1
  obtain ⟨b4, hb4⟩ : ∃ b, w.heap.size + 1 + 1 = b := ⟨_, rfl⟩
  rw [hb4] at HL1 ⊢
  obtain ⟨b3, hb3⟩ : ∃ b, w.heap.size + 1 = b := ⟨_, rfl⟩
  rw [hb3] at HL1 ⊢
  obtain ⟨b2, hb2⟩ : ∃ b, w.heap.size = b := ⟨_, rfl⟩
  rw [hb2] at HL1 ⊢
  clear hw1 hb4 hb3 hb2 HL0
  refine (HL1.out.rPush 0 rfl a cap rs x hcap HP.out hnx hlen).mono ?_
  rintro e w2 ⟨err, a', cap', rs', rfl, hcp, hc, P', hP', hL⟩
  have HL2 := Lib.hid hL
  simp only [List.set_cons_zero] at HL2
  have HC := Lib.hid hc
  have HCP := Lib.hid hcp
  have HPP := Lib.hid hP'
  clear hL hc hcp hP' HL1
  obtain ⟨v0, v1, vf0, vf1, hl2, _, _⟩ := HL2.out.c2 1 rfl
  obtain ⟨u0, u1, uf0, uf1, hl4, _, _⟩ := HL2.out.c2 3 rfl
  have n1 := HL2.out.ne 1 3 rfl rfl (by decide)
  have n2 := Ne.symm n1
  go_wp2
  have HL4 := Lib.hid ((((HL2.out.set 1 rfl 1 (.slice a' rs'.length cap')).set 3 rfl 0 (.int .i64 cell)).set 3 rfl 1 (.slice a' rs'.length cap')).alloc_ (.cells #[.slice a' rs'.length cap'] 54))
  simp only [List.set_cons_succ, List.set_cons_zero, List.setIfInBounds_toArray] at HL4
  obtain ⟨s0, s1, _⟩ := HL4.out.c2 3 rfl
  refine bodyPost_ret (v := .tuple #[.agg #[.int .i64 cell, .slice a' rs'.length cap'], .int .i64 err]) (by simp [results, Try.results93, go_sem, s0, s1]) rfl ?_
  exact ⟨err, a', cap', rs', rfl, HCP.out, HC.out, P', HPP.out, Led.sub_end (l := [_]) (m := [_, _, _]) HL4.out⟩
/-- What the reference's Next tells. -/
def NextedR (T : List Nat) (w : World) (P : World → Prop) (cell : Int) (rs : List ME) (e : Ending) (w' : World) : Prop :=
  ∃ (a' : Option Addr) (cap' : Nat) (rs' : List ME) (x : ME) (c : Bool), e = .returned (.tuple #[.agg #[.int .i64 cell, .slice a' rs'.length cap'], x.val, .bool c]) ∧ rs'.length ≤ cap' ∧ AtRef rs 0 x c ∧ rs' = (if c = true then rs.eraseIdx 0 else rs) ∧ Grew T w P a' rs' w'
set_option maxHeartbeats 4000000 in
theorem Next_ref15 (T : List Nat) (w : World) (P : World → Prop) (cell : Int) (a : Option Addr) (cap : Nat) (rs : List ME) (hcap : rs.length ≤ cap) (h : Led T w w [stillT P]) (hP : ∀ W, P W → EntsAt W a rs) (hlen : rs.length ≤ 1048576) :
    Calls Try.prog 94 #[.agg #[.int .i64 cell, .slice a rs.length cap]] w (NextedR T w P cell rs) := by
  have HP := Lib.hid hP
  have HL0 := Lib.hid h
  clear h hP
  go_enter Try.func94, Try.ntmps94
  go_wp2_with fail
  refine wp_calls_name ?_
  intro w1 hw1
  have HL1 := Lib.hid (HL0.out.al3 hw1)
  simp only [List.nil_append, List.cons_append] at HL1
  obtain ⟨b3, hb3⟩ : ∃ b, w.heap.size + 1 + 1 = b := ⟨_, rfl⟩
  rw [hb3] at HL1 ⊢
  obtain ⟨b2, hb2⟩ : ∃ b, w.heap.size + 1 = b := ⟨_, rfl⟩
  rw [hb2] at HL1 ⊢
  obtain ⟨b1, hb1⟩ : ∃ b, w.heap.size = b := ⟨_, rfl⟩
  rw [hb1] at HL1 ⊢
  clear hw1 hb3 hb2 hb1 HL0
  refine (HL1.out.rDrop' 0 rfl a cap rs 0 hcap HP.out hlen).mono ?_
  rintro e w2 ⟨a', cap', rs', x, c, rfl, hcp, hR, hrs, P', hP', hL⟩
  have HL2 := Lib.hid hL
  simp only [List.set_cons_zero] at HL2
  have HR := Lib.hid hR
  have HRS := Lib.hid hrs
  have HCP := Lib.hid hcp
  have HPP := Lib.hid hP'
  clear hL hR hrs hcp hP' HL1
  simp only [ent_eq]
  obtain ⟨v0, v1, vf0, vf1, hl2, _, _⟩ := HL2.out.c2 1 rfl
  go_upto_region 3 with fail
  refine wp_name ?_
  intro w3 hw3
  have HL3 : Hid (Led T w w3 [stillT P', box b1 103 #[.int .i64 cell, .slice a' rs'.length cap'], box b2 103 #[.int .i64 0, .slice none 0 0], box b3 27 #[.int .i64 0, .int .i64 0, .int .i64 0, .int .i64 0, .int .i64 0, .int .i64 0, .slice none 0 0], box w2.heap.size 54 #[.slice a' rs'.length cap'], box (w2.heap.size + 1) 27 #[.int .i64 x.sync, .int .i64 x.thread, .int .i64 x.branch, .int .i64 x.flag, .int .i64 x.v.kind, .int .i64 x.v.num, .slice x.v.addr x.v.parts.length x.v.cap]]) := by
    have h := ((HL2.out.set 1 rfl 1 (.slice a' rs'.length cap')).alloc 54 #[.slice a' rs'.length cap']).alloc 27 #[.int .i64 x.sync, .int .i64 x.thread, .int .i64 x.branch, .int .i64 x.flag, .int .i64 x.v.kind, .int .i64 x.v.num, .slice x.v.addr x.v.parts.length x.v.cap]
    rw [hw3] at h
    unfold Hid
    simpa using h
  obtain ⟨b6, hb6⟩ : ∃ b, w2.heap.size + 1 = b := ⟨_, rfl⟩
  rw [hb6] at HL3 ⊢
  clear hw3 hb6 HL2 v0 v1 vf0 vf1 hl2
  obtain ⟨v0, v1, vf0, vf1, hl2, _, _⟩ := HL3.out.c2 1 rfl
  obtain ⟨u0, u1, uf0, uf1, hl4, _, _⟩ := HL3.out.c2 2 rfl
  obtain ⟨y0, y1, y2, y3, y4, y5, y6, ⟨fy0, fy1, fy2, fy3, fy4, fy5, fy6⟩, hl5, _, _⟩ := HL3.out.c7 3 rfl
  obtain ⟨x0, x1, x2, x3, x4, x5, x6, _, hl7, _, _⟩ := HL3.out.c7 5 rfl
  have n1 := HL3.out.ne 1 2 rfl rfl (by decide)
  have n2 := HL3.out.ne 1 3 rfl rfl (by decide)
  have n3 := HL3.out.ne 2 3 rfl rfl (by decide)
  have n4 := HL3.out.ne 2 5 rfl rfl (by decide)
  have n5 := HL3.out.ne 3 5 rfl rfl (by decide)
  have m1 := Ne.symm n1
  have m2 := Ne.symm n2
  have m3 := Ne.symm n3
  have m4 := Ne.symm n4
  have m5 := Ne.symm n5
  go_wp2_with fail
  go_region_held3 (fun w' => w'.cell? ⟨b1, 0, none⟩ = some (.int .i64 cell) ∧ w'.cell? ⟨b1, 1, none⟩ = some (.slice a' rs'.length cap') ∧ w'.cell? ⟨b6, 0, none⟩ = some (.int .i64 x.sync) ∧ w'.cell? ⟨b6, 1, none⟩ = some (.int .i64 x.thread) ∧ w'.cell? ⟨b6, 2, none⟩ = some (.int .i64 x.branch) ∧ w'.cell? ⟨b6, 3, none⟩ = some (.int .i64 x.flag) ∧ w'.cell? ⟨b6, 4, none⟩ = some (.int .i64 x.v.kind) ∧ w'.cell? ⟨b6, 5, none⟩ = some (.int .i64 x.v.num) ∧ w'.cell? ⟨b6, 6, none⟩ = some (.slice x.v.addr x.v.parts.length x.v.cap)) (go_keep) (fail)
  go_wp2
  have HF := Lib.hid (((((HL3.out.set 2 rfl 0 (.int .i64 cell)).set 2 rfl 1 (.slice a' rs'.length cap')).setEnt 3 rfl x.sync x.thread x.branch x.flag x.v.kind x.v.num (.slice x.v.addr x.v.parts.length x.v.cap))).drew)
  simp only [List.set_cons_succ, List.set_cons_zero, List.setIfInBounds_toArray] at HF
  obtain ⟨q0, q1, _⟩ := HF.out.c2 2 rfl
  obtain ⟨s0, s1, s2, s3, s4, s5, s6, _⟩ := HF.out.c7 3 rfl
  refine bodyPost_ret (v := .tuple #[.agg #[.int .i64 cell, .slice a' rs'.length cap'], x.val, .bool c]) (by simp [results, Try.results94, go_sem, q0, q1, s0, s1, s2, s3, s4, s5, s6, ent_eq]) rfl ?_
  exact ⟨a', cap', rs', x, c, rfl, HCP.out, HR.out, HRS.out, P', HPP.out, Led.sub_end (l := [_]) (m := [_, _, _, _, _]) HF.out⟩
end Go.Proofs.Ytihmbgdkllmkaaa

/-
  The plain model of layer 1: an arena is a list of words, how many there may be, and all accesses. No program is in sight.
-/
namespace Go.Proofs.Ytihmbgdkllmkaaa
open Go.RowKit

/-- An access: its operation, its cell, what the cell held, what it holds, whether it was done. -/
structure Acc where
  op : Nat
  at_ : Nat
  old : Nat
  new : Nat
  did : Bool
deriving DecidableEq

def Acc.cells (x : Acc) : List Value := [.int .i64 x.op, .int .i64 x.at_, .int .u64 x.old, .int .u64 x.new, .bool x.did]
def Acc.zero : Acc := ⟨0, 0, 0, 0, false⟩
theorem Acc.cells_length (x : Acc) : x.cells.length = 5 := rfl
def accCells (l : List Acc) : List Value := l.flatMap Acc.cells
theorem accCells_length (l : List Acc) : (accCells l).length = l.length * 5 := by
  induction l with
  | nil => rfl
  | cons x l ih => simp only [accCells, List.flatMap_cons, List.length_append, Acc.cells_length, List.length_cons] at ih ⊢; omega
theorem accCells_append (a b : List Acc) : accCells (a ++ b) = accCells a ++ accCells b := by simp [accCells]
theorem accCells_get (l : List Acc) (i : Nat) (hi : i < l.length) (j : Nat) (hj : j < 5) : (accCells l)[i * 5 + j]? = l[i].cells[j]? := by
  induction l generalizing i with
  | nil => simp at hi
  | cons x l ih =>
    simp only [accCells, List.flatMap_cons]
    cases i with
    | zero =>
      rw [List.getElem?_append_left (by simp [Acc.cells_length]; omega)]
      simp
    | succ i =>
      rw [List.getElem?_append_right (by simp [Acc.cells_length]; omega)]
      have := ih i (by simpa using hi)
      simp only [Acc.cells_length, List.getElem_cons_succ]
      rw [show (i + 1) * 5 + j - 5 = i * 5 + j from by omega]
      exact this
theorem accCells_set (l : List Acc) (i : Nat) (hi : i < l.length) (x : Acc) :
    accCells (l.set i x) = ((((((accCells l).set (i * 5) (.int .i64 x.op)).set (i * 5 + 1) (.int .i64 x.at_)).set (i * 5 + 2) (.int .u64 x.old)).set (i * 5 + 3) (.int .u64 x.new)).set (i * 5 + 4) (.bool x.did)) := by
  induction l generalizing i with
  | nil => simp at hi
  | cons y l ih =>
    cases i with
    | zero => simp [accCells, Acc.cells]
    | succ i =>
      have := ih i (by simpa using hi)
      simp only [accCells, List.set_cons_succ, List.flatMap_cons] at this ⊢
      rw [this]
      simp only [Acc.cells, List.cons_append, List.nil_append]
      rw [show (i + 1) * 5 = i * 5 + 1 + 1 + 1 + 1 + 1 from by omega]
      simp only [List.set_cons_succ]

/-- An arena: its words, how many there may be, all accesses. -/
structure Ar where
  C : List Nat
  most : Nat
  L : List Acc

/-- r is what is remembered of L: the last 1024, each at its number modulo 1024. -/
def Ring (L r : List Acc) : Prop := r.length = min L.length 1024 ∧ ∀ j, L.length ≤ j + 1024 → j < L.length → r[j % 1024]? = L[j]?

theorem Ring.nil : Ring [] [] := ⟨rfl, fun j _ h => by simp at h⟩
theorem Ring.push {L r : List Acc} (h : Ring L r) (hl : r.length < 1024) (x : Acc) : Ring (L ++ [x]) (r ++ [x]) := by
  obtain ⟨h1, h2⟩ := h
  have hL : L.length < 1024 := by omega
  refine ⟨by simp; omega, fun j hj1 hj2 => ?_⟩
  simp only [List.length_append, List.length_cons, List.length_nil] at hj1 hj2
  rw [Nat.mod_eq_of_lt (by omega)]
  by_cases hj : j < L.length
  · rw [List.getElem?_append_left (by omega), List.getElem?_append_left hj]
    have := h2 j (by omega) hj
    rwa [Nat.mod_eq_of_lt (by omega)] at this
  · have e : j = L.length := by omega
    have e2 : r.length = L.length := by omega
    rw [List.getElem?_append_right (by omega), List.getElem?_append_right (by omega), e2, e]
theorem Ring.turn {L r : List Acc} (h : Ring L r) (hl : ¬ r.length < 1024) (x : Acc) : Ring (L ++ [x]) (r.set (L.length % 1024) x) := by
  obtain ⟨h1, h2⟩ := h
  have hr : r.length = 1024 := by omega
  refine ⟨by simp; omega, fun j hj1 hj2 => ?_⟩
  simp only [List.length_append, List.length_cons, List.length_nil] at hj1 hj2
  by_cases hj : j < L.length
  · rw [List.getElem?_append_left hj, List.getElem?_set_ne (by omega)]
    exact h2 j (by omega) hj
  · have e : j = L.length := by omega
    subst e
    rw [List.getElem?_set_self (by have := Nat.mod_lt L.length (show 0 < 1024 by omega); omega)]
    simp

/-- The words, as cells. -/
def words (l : List Nat) : List Value := l.map fun (n : Nat) => .int .u64 (n : Int)
theorem words_length (l : List Nat) : (words l).length = l.length := by simp [words]
theorem words_append (a b : List Nat) : words (a ++ b) = words a ++ words b := by simp [words]
theorem words_get (l : List Nat) (i : Nat) (hi : i < l.length) : (words l)[i]? = some (.int .u64 (l[i] : Int)) := by simp [words, hi]
theorem words_set (l : List Nat) (i : Nat) (n : Nat) : words (l.set i n) = (words l).set i (.int .u64 (n : Int)) := by simp [words, List.map_set]

/-- A word's range. -/
def Wd (n : Nat) : Prop := n < 18446744073709551616

/-- An arena at block g in memory: its struct, the row of its accesses, the row of its words. -/
structure ArAt (w : World) (g : Nat) (v1 v2 : Value) (r : List Acc) (s : Ar) : Prop where
  blk : Blk w g 131 #[.int .u64 (s.L.length : Int), v1, .int .i64 (s.most : Int), v2]
  log : w.ownsRow 0 175 5 v1 r.length (accCells r)
  cel : w.ownsRow 0 127 1 v2 s.C.length (words s.C)
  ring : Ring s.L r
  most1 : 1 ≤ s.most
  most2 : s.most ≤ 65536
  len : s.C.length ≤ s.most
  wd : ∀ n ∈ s.C, Wd n

/-- The same, its blocks named: fp. -/
def IsAr (w : World) (g : Nat) (fp : List Nat) (s : Ar) : Prop := ∃ v1 v2 r, ArAt w g v1 v2 r s ∧ fp = g :: (sb v1 ++ sb v2)

theorem IsAr.keep {w w' : World} {g : Nat} {fp : List Nat} {s : Ar} (h : IsAr w g fp s) (he : ∀ k ∈ fp, w'.heap[k]? = w.heap[k]?) : IsAr w' g fp s := by
  obtain ⟨v1, v2, r, h, rfl⟩ := h
  exact ⟨v1, v2, r, ⟨h.blk.keep (he g (by simp)), own_keep h.log (fun k hk => he k (by simp [hk])), own_keep h.cel (fun k hk => he k (by simp [hk])), h.ring, h.most1, h.most2, h.len, h.wd⟩, rfl⟩
theorem IsAr.lt {w : World} {g : Nat} {fp : List Nat} {s : Ar} (h : IsAr w g fp s) : ∀ k ∈ fp, k < w.heap.size := by
  obtain ⟨v1, v2, r, h, rfl⟩ := h
  intro k hk
  simp only [List.mem_cons, List.mem_append] at hk
  rcases hk with rfl | hk | hk
  · exact h.blk.lt
  · exact own_lt h.log k hk
  · exact own_lt h.cel k hk
theorem IsAr.touch {w w' : World} {g : Nat} {fp S : List Nat} {s : Ar} (h : IsAr w g fp s) (ht : Touch S w w') (hd : ∀ k ∈ fp, k ∉ S) : IsAr w' g fp s :=
  h.keep fun k hk => ht.block k (h.lt k hk) (hd k hk)
theorem IsAr.drewN {w : World} {g : Nat} {fp : List Nat} {s : Ar} (h : IsAr w g fp s) (n : Nat) : IsAr (w.drewN n) g fp s := h.keep fun _ _ => rfl
theorem IsAr.alloc {w : World} {g : Nat} {fp : List Nat} {s : Ar} (h : IsAr w g fp s) (o : Obj) : IsAr (w.alloc o) g fp s := h.keep fun k hk => Below.heap_alloc w o k (h.lt k hk)

/-- A step of what lies at fp: nothing else has turned; what it lies at then is that, or new. -/
structure Moved (fp fp' : List Nat) (w w' : World) : Prop where
  touch : Touch fp w w'
  fp : ∀ k ∈ fp', k ∈ fp ∨ w.heap.size ≤ k
theorem Moved.refl (fp : List Nat) (w : World) : Moved fp fp w w := ⟨Touch.refl _ _, fun _ h => .inl h⟩
theorem Moved.trans {a b c : List Nat} {w w1 w2 : World} (h : Moved a b w w1) (h' : Moved b c w1 w2) : Moved a c w w2 :=
  ⟨h.touch.trans h'.touch h.fp, fun k hk => (h'.fp k hk).elim (fun h2 => h.fp k h2) (fun h2 => .inr (Nat.le_trans h.touch.size h2))⟩
theorem Moved.drewN {a b : List Nat} {w w1 : World} (h : Moved a b w w1) (n : Nat) : Moved a b w (w1.drewN n) := ⟨h.touch.drewN n, h.fp⟩
theorem Moved.alloc {a b : List Nat} {w w1 : World} (h : Moved a b w w1) (o : Obj) : Moved a b w (w1.alloc o) := ⟨h.touch.alloc o, h.fp⟩
end Go.Proofs.Ytihmbgdkllmkaaa

/-
  Layer 1, the record: what 'note' does (cell.go), for every record whose count is below 2^62.
-/
namespace Go.Proofs.Ytihmbgdkllmkaaa
open Go.RowKit
set_option maxRecDepth 100000
set_option linter.unusedVariables false

theorem acc_one (x : Acc) : ∀ u ∈ x.cells, u.oneCell' = true := by
  intro u hu
  simp only [Acc.cells, List.mem_cons, List.not_mem_nil, or_false] at hu
  rcases hu with rfl | rfl | rfl | rfl | rfl <;> rfl
theorem info_access : (Try.prog.info? 175).map (fun i => (i.zero, i.size, i.bytes)) = some (some (.agg #[.int .i64 0, .int .i64 0, .int .u64 0, .int .u64 0, .bool false]), 5, 40) := by kernel_rfl

/-- An access, as a value. -/
abbrev Acc.val (x : Acc) : Value := .agg #[.int .i64 (x.op : Int), .int .i64 (x.at_ : Int), .int .u64 (x.old : Int), .int .u64 (x.new : Int), .bool x.did]
/-- The block of an access's box. -/
abbrev Acc.box (x : Acc) : Obj := .cells #[.int .i64 (x.op : Int), .int .i64 (x.at_ : Int), .int .u64 (x.old : Int), .int .u64 (x.new : Int), .bool x.did] 175

/-- What 'note' leaves. -/
def Noted (w w' : World) (g : Nat) (L : List Acc) (m v1 v2 : Value) (x : Acc) : Prop :=
  ∃ v1' r', Blk w' g 131 #[.int .u64 ((L.length + 1 : Nat) : Int), v1', m, v2] ∧ w'.ownsRow 0 175 5 v1' r'.length (accCells r') ∧ Ring (L ++ [x]) r' ∧
    Touch (g :: sb v1) w w' ∧ (∀ k ∈ sb v1', k ∈ sb v1 ∨ w.heap.size ≤ k)

theorem noted_push {w wa w1 : World} {g g' cap : Nat} {L r : List Acc} {m v1 v2 : Value} {x : Acc} (hb : Blk w g 131 #[.int .u64 (L.length : Int), v1, m, v2])
    (ho : w.ownsRow 0 175 5 v1 r.length (accCells r)) (hR : Ring L r) (hr : r.length < 1024) (hta : Touch [] w wa) (hgrow : wa.grownBy w1 v1.ownBlock)
    (hown : w1.ownsRow 0 175 5 (.slice (some ⟨g', 0, none⟩) (r.length + 1) cap) (r.length + 1) (accCells r ++ x.cells)) (hat : v1.ownBlock = some g' ∨ g' = wa.heap.size) :
    Noted w ((w1.setCell ⟨g, 1, none⟩ (.slice (some ⟨g', 0, none⟩) (r.length + 1) cap)).setCell ⟨g, 0, none⟩ (.int .u64 ((L.length : Int) + 1))) g L m v1 v2 x := by
  have hgn : some g ≠ v1.ownBlock := fun h => own_ne ho hb (by decide) (by simp [sb, ← h])
  have B1 := (hb.touch hta (by simp)).grown hgrow hgn
  have hgo := own_ne hown B1 (by decide)
  refine ⟨.slice (some ⟨g', 0, none⟩) (r.length + 1) cap, r ++ [x], ?_, ?_, hR.push hr x, ?_, ?_⟩
  · have := (B1.set 1 (.slice (some ⟨g', 0, none⟩) (r.length + 1) cap)).set 0 (.int .u64 ((L.length : Int) + 1))
    simpa using this
  · have := own_setCell (own_setCell hown ⟨g, 1, none⟩ (.slice (some ⟨g', 0, none⟩) (r.length + 1) cap) hgo) ⟨g, 0, none⟩ (.int .u64 ((L.length : Int) + 1)) hgo
    rw [accCells_append]
    simpa [accCells] using this
  · refine (((hta.mono (S' := g :: sb v1) (by simp)).grown hgrow ?_).setCell ⟨g, 1, none⟩ _ (by simp)).setCell ⟨g, 0, none⟩ _ (by simp)
    intro k hk
    exact .inl (by simp [sb, hk])
  · intro k hk
    have hk' : k = g' := by simpa [sb, Value.ownBlock] using hk
    subst hk'
    rcases hat with h | h
    · exact .inl (by simp [sb, h])
    · exact .inr (by rw [h]; exact hta.size)

set_option maxHeartbeats 1000000 in
theorem note_push (w : World) (g : Nat) (L r : List Acc) (m v1 v2 : Value) (x : Acc) (hb : Blk w g 131 #[.int .u64 (L.length : Int), v1, m, v2])
    (ho : w.ownsRow 0 175 5 v1 r.length (accCells r)) (hR : Ring L r) (hr : r.length < 1024) (hn : L.length < 4611686018427387904) :
    Calls Try.prog 119 #[.pointer (some ⟨g, 0, none⟩), x.val] w fun e w' => e = .returned (.tuple #[]) ∧ Noted w w' g L m v1 v2 x := by
  obtain ⟨i0, hi, hz0, hz1, hz2⟩ := info_parts info_access
  obtain ⟨a1, c1, rfl, hc1, hc2⟩ := own_val ho
  have h0 := hb.cell 0
  have h1 := hb.cell 1
  have f0 := hb.frozen 0
  have f1 := hb.frozen 1
  simp at h0 h1
  have hgl := hb.lt
  have HB := Lib.hid hb
  have HO1 := Lib.hid ho
  have HR := Lib.hid hR
  have HT := Lib.hid ((((Touch.refl [] w).alloc x.box).alloc x.box).drew)
  have HO := Lib.hid (own_drew ((ho.alloc x.box).alloc x.box))
  have hb2 := Lib.hid (Blk.drew ((hb.alloc x.box).alloc x.box))
  have HG : Hid (some g ≠ (Value.slice a1 r.length c1).ownBlock) := fun h => own_ne ho hb (by decide) (by simp [sb, ← h])
  have HN := Lib.hid (World.news_of_block (w := ((w.alloc x.box).alloc x.box).drew) (B := w.heap.size + 1) (cs := #[.int .i64 (x.op : Int), .int .i64 (x.at_ : Int), .int .u64 (x.old : Int), .int .u64 (x.new : Int), .bool x.did]) (t := 175) (fr := (0, 0)) (by have := heap_alloc_new (w.alloc x.box) x.box; rw [World.size_alloc] at this; exact this))
  clear hb ho hR hc1 hc2
  go_enter Try.func119, Try.ntmps119
  go_wp2
  go_region_law (refine step_append_lies _ rfl (.tmp 14) (.tmp 16) 99 rfl 0 175 i0 _ 5 40 Try.underlying99 hi hz0 hz1 hz2 rfl (by decide) (.slice a1 r.length c1) r.length (accCells r) (by simp [Act.eval]) HO.out ⟨w.heap.size + 1, 0, none⟩ 1 1 x.cells (by simp [Act.eval]) rfl HN.out (acc_one x) (by omega) (by simp only [maxLen]; omega) (by omega) (Nat.zero_le _) _ rfl ?_; intro g' cap w1 hown hgrow hat hlt; have B1 := hb2.out.grown hgrow HG.out; have k1 := B1.cell 1; have e1 := B1.frozen 1; have k0 := B1.cell 0; have e0 := B1.frozen 0; simp at k0 k1; have H1 := Lib.hid hown; have H2 := Lib.hid hgrow; have H3 := Lib.hid hat; clear B1 hown hgrow hat)
  all_goals go_wp2
  all_goals go_end0
  all_goals exact ⟨rfl, noted_push HB.out HO1.out HR.out hr HT.out H2.out H1.out H3.out⟩

theorem noted_turn {w : World} {g g1 cap : Nat} {L r : List Acc} {m v2 : Value} {x : Acc} (hb : Blk w g 131 #[.int .u64 (L.length : Int), .slice (some ⟨g1, 0, none⟩) 1024 cap, m, v2])
    (ho : w.ownsRow 0 175 5 (.slice (some ⟨g1, 0, none⟩) 1024 cap) 1024 (accCells r)) (hR : Ring L r) (hr : r.length = 1024) (q : Nat) (hq : q = L.length % 1024) (o : Obj) :
    Noted w (((((((w.setCell ⟨g1, q * 5, none⟩ (.int .i64 (x.op : Int))).setCell ⟨g1, q * 5 + 1, none⟩ (.int .i64 (x.at_ : Int))).setCell ⟨g1, q * 5 + 2, none⟩ (.int .u64 (x.old : Int))).setCell ⟨g1, q * 5 + 3, none⟩ (.int .u64 (x.new : Int))).setCell
      ⟨g1, q * 5 + 4, none⟩ (.bool x.did)).setCell ⟨g, 0, none⟩ (.int .u64 ((L.length : Int) + 1))).alloc o).drew g L m (.slice (some ⟨g1, 0, none⟩) 1024 cap) v2 x := by
  have hgo := own_ne ho hb (by decide)
  have hne : g ≠ g1 := fun h => hgo (by simp [sb, Value.ownBlock, h])
  refine ⟨.slice (some ⟨g1, 0, none⟩) 1024 cap, r.set (L.length % 1024) x, ?_, ?_, hR.turn (by omega) x, ?_, fun k hk => .inl hk⟩
  · have := ((((((hb.far (p := ⟨g1, q * 5, none⟩) hne (.int .i64 (x.op : Int))).far (p := ⟨g1, q * 5 + 1, none⟩) hne (.int .i64 (x.at_ : Int))).far (p := ⟨g1, q * 5 + 2, none⟩) hne (.int .u64 (x.old : Int))).far (p := ⟨g1, q * 5 + 3, none⟩) hne (.int .u64 (x.new : Int))).far (p := ⟨g1, q * 5 + 4, none⟩) hne (.bool x.did)).set 0 (.int .u64 ((L.length : Int) + 1))).alloc o
    simp only [List.setIfInBounds_toArray, List.set_cons_zero] at this
    rw [Int.natCast_add, Int.natCast_one]
    exact this.drew
  · have := (own_setCell (own_set (own_set (own_set (own_set (own_set ho (q * 5) (.int .i64 (x.op : Int))) (q * 5 + 1) (.int .i64 (x.at_ : Int))) (q * 5 + 2) (.int .u64 (x.old : Int))) (q * 5 + 3) (.int .u64 (x.new : Int))) (q * 5 + 4) (.bool x.did)) ⟨g, 0, none⟩ (.int .u64 ((L.length : Int) + 1)) hgo).alloc o
    rw [accCells_set _ _ (by have := Nat.mod_lt L.length (show 0 < 1024 by omega); omega), List.length_set, hr, ← hq]
    exact own_drew this
  · have hg1 : g1 ∈ g :: sb (.slice (some ⟨g1, 0, none⟩) 1024 cap) := by simp [sb, Value.ownBlock]
    exact ((((((((Touch.refl _ w).setCell _ _ (.inl hg1)).setCell _ _ (.inl hg1)).setCell _ _ (.inl hg1)).setCell _ _ (.inl hg1)).setCell _ _ (.inl hg1)).setCell ⟨g, 0, none⟩ _ (by simp)).alloc o).drew

set_option maxHeartbeats 1000000 in
theorem note_turn (w : World) (g : Nat) (L r : List Acc) (m v1 v2 : Value) (x : Acc) (hb : Blk w g 131 #[.int .u64 (L.length : Int), v1, m, v2])
    (ho : w.ownsRow 0 175 5 v1 r.length (accCells r)) (hR : Ring L r) (hr : r.length = 1024) (hn : L.length < 4611686018427387904) :
    Calls Try.prog 119 #[.pointer (some ⟨g, 0, none⟩), x.val] w fun e w' => e = .returned (.tuple #[]) ∧ Noted w w' g L m v1 v2 x := by
  obtain ⟨g1, cap, cur, rfl, hcur, hc1, hc2, hc3, hc4⟩ := own_form ho (by omega)
  rw [hr] at hb ho ⊢
  have h0 := hb.cell 0
  have h1 := hb.cell 1
  have f0 := hb.frozen 0
  have f1 := hb.frozen 1
  simp at h0 h1
  have hgl := hb.lt
  have hg1 := hcur.lt
  obtain ⟨q, hq0, hq, hq1⟩ : ∃ q : Nat, Hid (q = L.length % 1024) ∧ (L.length : Int).tmod 1024 = (q : Int) ∧ q < 1024 := ⟨L.length % 1024, rfl, by rw [Int.tmod_eq_emod_of_nonneg (by omega)]; omega, Nat.mod_lt _ (by omega)⟩
  have hq2 : (q : Int) < 1024 := by omega
  have hlen : (accCells r).length = 5120 := by rw [accCells_length, hr]
  have c0 := own_cell ho (q * 5) (by omega)
  have c1 := own_cell ho (q * 5 + 1) (by omega)
  have c2 := own_cell ho (q * 5 + 2) (by omega)
  have c3 := own_cell ho (q * 5 + 3) (by omega)
  have c4 := own_cell ho (q * 5 + 4) (by omega)
  have d0 := own_frozen ho (q * 5)
  have d1 := own_frozen ho (q * 5 + 1)
  have d2 := own_frozen ho (q * 5 + 2)
  have d3 := own_frozen ho (q * 5 + 3)
  have d4 := own_frozen ho (q * 5 + 4)
  have hne : g ≠ g1 := hb.ne hcur (by decide)
  have HF := Lib.hid (fun o => noted_turn (x := x) hb ho hR hr q hq0.out o)
  clear hc4 hc3 ho hb hcur hr hR hc1 hc2
  go_enter Try.func119, Try.ntmps119
  go_wp2
  go_region
  all_goals go_wp2
  all_goals go_end0
  all_goals exact ⟨rfl, HF.out _⟩

/-- 'note': the access is the last one then. -/
theorem note_any (w : World) (g : Nat) (L r : List Acc) (m v1 v2 : Value) (x : Acc) (hb : Blk w g 131 #[.int .u64 (L.length : Int), v1, m, v2])
    (ho : w.ownsRow 0 175 5 v1 r.length (accCells r)) (hR : Ring L r) (hn : L.length < 4611686018427387904) :
    Calls Try.prog 119 #[.pointer (some ⟨g, 0, none⟩), x.val] w fun e w' => e = .returned (.tuple #[]) ∧ Noted w w' g L m v1 v2 x := by
  by_cases hr : r.length < 1024
  · exact note_push w g L r m v1 v2 x hb ho hR hr hn
  · exact note_turn w g L r m v1 v2 x hb ho hR (by have := hR.1; omega) hn
end Go.Proofs.Ytihmbgdkllmkaaa

/-
  Layer 1: 'missing', 'access' and the four accesses (cell.go) of an arena that is there: each is one access, logged.
-/
namespace Go.Proofs.Ytihmbgdkllmkaaa
open Go.RowKit Go.Shelf
set_option maxRecDepth 100000
set_option linter.unusedVariables false

theorem missing_no (g : Nat) (n : Nat) (w : World) (hc : w.cell? ⟨g, 2, none⟩ = some (.int .i64 (n : Int))) (h : 1 ≤ n) :
   Calls Try.prog 108 #[.pointer (some ⟨g, 0, none⟩)] w fun e w' => e = .returned (.bool false) ∧ w = w' := by
  have h : ((n : Int) == 0) = false := by simp; omega
  go_enter Try.func108, Try.ntmps108
  go_wp2
  go_ret
  exact ⟨rfl, rfl⟩
theorem missing_zero (g : Nat) (w : World) (hc : w.cell? ⟨g, 2, none⟩ = some (.int .i64 0)) :
   Calls Try.prog 108 #[.pointer (some ⟨g, 0, none⟩)] w fun e w' => e = .returned (.bool true) ∧ w = w' := by
  go_enter Try.func108, Try.ntmps108
  go_wp2
  go_ret
  exact ⟨rfl, rfl⟩
theorem missing_nil (w : World) :
   Calls Try.prog 108 #[.pointer none] w fun e w' => e = .returned (.bool true) ∧ w = w' := by
  go_enter Try.func108, Try.ntmps108
  go_wp2
  go_ret
  exact ⟨rfl, rfl⟩

/-- Only draws. -/
def Quiet (w w' : World) : Prop := ∃ n, w' = w.drewN n
theorem Quiet.refl (w : World) : Quiet w w := ⟨0, rfl⟩

/-- An access to cell i is done. -/
def Ar.acc (s : Ar) (op i now : Nat) (did : Bool) : Ar := { s with C := s.C.set i now, L := s.L ++ [⟨op, i, s.C.getD i 0, now, did⟩] }

/-- The arena at g is s then; only its own blocks, and new ones, have turned. -/
def ArTo (w w' : World) (g : Nat) (fp : List Nat) (s : Ar) : Prop := ∃ fp', IsAr w' g fp' s ∧ Moved fp fp' w w'

theorem wd_set {l : List Nat} (h : ∀ n ∈ l, Wd n) (i n : Nat) (hn : Wd n) : ∀ m ∈ l.set i n, Wd m := by
  intro m hm
  rcases List.mem_or_eq_of_mem_set hm with h1 | h1
  · exact h m h1
  · rw [h1]; exact hn

theorem acc_close {w wq w3 : World} {g g2 cap : Nat} {v1 : Value} {r : List Acc} {s : Ar} {i now op : Nat} {did : Bool} {was : Nat}
    (hA : ArAt w g v1 (.slice (some ⟨g2, 0, none⟩) s.C.length cap) r s) (hi : i < s.C.length) (hwas : s.C[i] = was) (hnow : Wd now) (hq : Quiet w wq)
    (hN : Noted (wq.setCell ⟨g2, i, none⟩ (.int .u64 (now : Int))) w3 g s.L (.int .i64 (s.most : Int)) v1 (.slice (some ⟨g2, 0, none⟩) s.C.length cap) ⟨op, i, was, now, did⟩) :
    ArTo w w3 g (g :: (sb v1 ++ sb (.slice (some ⟨g2, 0, none⟩) s.C.length cap))) (s.acc op i now did) := by
  obtain ⟨nq, rfl⟩ := hq
  obtain ⟨v1', r', hB, hL, hR, hT, hF⟩ := hN
  have hne : g ≠ g2 := fun h => own_ne hA.cel hA.blk (by decide) (by simp [sb, Value.ownBlock, h])
  have hc2 : ((w.drewN nq).setCell ⟨g2, i, none⟩ (.int .u64 (now : Int))).ownsRow 0 127 1 (.slice (some ⟨g2, 0, none⟩) s.C.length cap) s.C.length (words (s.C.set i now)) := by
    have := own_set (own_drewN hA.cel nq) i (.int .u64 (now : Int))
    rwa [← words_set] at this
  have h12 := own_ne2 hA.cel hA.log (by decide)
  have hc3 : w3.ownsRow 0 127 1 (.slice (some ⟨g2, 0, none⟩) s.C.length cap) s.C.length (words (s.C.set i now)) := own_touch hc2 hT (fun k hk => by
    simp only [List.mem_cons, not_or]
    refine ⟨?_, h12 k hk⟩
    rintro rfl
    exact own_ne hA.cel hA.blk (by decide) hk)
  refine ⟨g :: (sb v1' ++ sb (.slice (some ⟨g2, 0, none⟩) s.C.length cap)), ⟨v1', _, r', ⟨?_, hL, ?_, ?_, hA.most1, hA.most2, ?_, ?_⟩, rfl⟩, ?_, ?_⟩
  · simpa [Ar.acc] using hB
  · simpa [Ar.acc] using hc3
  · have : s.C.getD i 0 = was := by simp [List.getD, hi, hwas]
    simp only [Ar.acc, this]
    exact hR
  · simpa [Ar.acc] using hA.len
  · exact wd_set hA.wd i now hnow
  · refine ((((Touch.refl _ w).drewN nq).setCell ⟨g2, i, none⟩ _ (.inl ?_)).trans hT ?_)
    · simp [sb, Value.ownBlock]
    · intro k hk
      simp only [List.mem_cons] at hk
      rcases hk with rfl | hk
      · simp
      · exact .inl (by simp [hk])
  · intro k hk
    simp only [List.mem_cons, List.mem_append] at hk ⊢
    rcases hk with rfl | hk | hk
    · simp
    · rcases hF k hk with h | h
      · simp [h]
      · exact .inr (by simpa [World.setCell] using h)
    · simp [hk]

set_option maxHeartbeats 1000000 in
theorem access_did (w : World) (g : Nat) (v1 v2 : Value) (r : List Acc) (s : Ar) (op i : Nat) (fc : Nat) (caps : Array Value) (now : Nat) (hnow : Wd now) (hA : ArAt w g v1 v2 r s) (hi : i < s.C.length)
    (eg : ∀ args w, (callFunc fc args).run Try.prog w = .ok (.enter fc args) w)
    (hch : Calls Try.prog fc (#[.int .u64 (s.C[i] : Int)] ++ caps) w fun e w' => e = .returned (.tuple #[.int .u64 (now : Int), .bool true]) ∧ Quiet w w') (hn : s.L.length < 4611686018427387904) :
    Calls Try.prog 109 #[.pointer (some ⟨g, 0, none⟩), .int .i64 (op : Int), .int .i64 (i : Int), .func (.func fc) #[] caps] w fun e w' =>
      e = .returned (.tuple #[.int .u64 (s.C[i] : Int), .bool true, .int .i64 0]) ∧ ArTo w w' g (g :: (sb v1 ++ sb v2)) (s.acc op i now true) := by
  obtain ⟨g2, cap, cur, rfl, hcur, hc1, hc2, hc3, hc4⟩ := own_form hA.cel (by omega)
  have hci := own_cell hA.cel i (by rw [words_length]; exact hi)
  have hfi := own_frozen hA.cel i
  have h3 := hA.blk.cell 3
  have h2 := hA.blk.cell 2
  simp [words] at h3 h2 hci
  have hbd : (i : Int) < (s.C.length : Int) := by omega
  have hne : g ≠ g2 := hA.blk.ne hcur (by decide)
  have hm1 := hA.most1
  have hlen := hA.len
  have hm2 := hA.most2
  have hgl := hA.blk.lt
  have hg2 := hcur.lt
  have HC := Lib.hid hch
  obtain ⟨was, hwas⟩ : ∃ was, s.C[i] = was := ⟨_, rfl⟩
  rw [hwas] at hci HC ⊢
  have HF := Lib.hid (fun w1 w3 hq hN => acc_close (w := w) (wq := w1) (w3 := w3) (op := op) (did := true) hA hi hwas hnow hq hN)
  have HA := Lib.hid hA
  have HCu := Lib.hid hcur
  clear hch hA hc3 hc4 hwas hcur
  go_enter Try.func109, Try.ntmps109
  go_wp2_with (go_at_call 108; refine (missing_no _ _ _ h2 hm1).mono ?_; rintro e w' ⟨rfl, rfl⟩)
  refine HC.out.mono ?_
  rintro e w1 ⟨rfl, hq⟩
  have HQ := Lib.hid hq
  obtain ⟨nq, rfl⟩ := hq
  go_wp2_with fail
  refine (note_any _ g s.L r (.int .i64 (s.most : Int)) v1 (.slice (some ⟨g2, 0, none⟩) s.C.length cap) ⟨op, i, was, now, true⟩ ?_ ?_ HA.out.ring hn).mono ?_
  · exact Blk.drewN (HA.out.blk.far hne _) nq
  · exact own_drewN (own_setCell HA.out.log ⟨g2, i, none⟩ _ (fun h => (own_ne2 HA.out.log HA.out.cel (by decide)) g2 h (by simp [sb, Value.ownBlock]))) nq
  rintro e w3 ⟨rfl, hN⟩
  have HN := Lib.hid hN
  clear hN
  go_wp2
  refine bodyPost_ret (v := .tuple #[.int .u64 (was : Int), .bool true, .int .i64 0]) (by simp [results, go_sem]) rfl ⟨rfl, HF.out _ _ HQ.out HN.out⟩
set_option maxHeartbeats 1000000 in
theorem access_not (w : World) (g : Nat) (v1 v2 : Value) (r : List Acc) (s : Ar) (op i : Nat) (fc : Nat) (caps : Array Value) (now0 : Nat) (hA : ArAt w g v1 v2 r s) (hi : i < s.C.length)
    (eg : ∀ args w, (callFunc fc args).run Try.prog w = .ok (.enter fc args) w)
    (hch : Calls Try.prog fc (#[.int .u64 (s.C[i] : Int)] ++ caps) w fun e w' => e = .returned (.tuple #[.int .u64 (now0 : Int), .bool false]) ∧ Quiet w w') (hn : s.L.length < 4611686018427387904) :
    Calls Try.prog 109 #[.pointer (some ⟨g, 0, none⟩), .int .i64 (op : Int), .int .i64 (i : Int), .func (.func fc) #[] caps] w fun e w' =>
      e = .returned (.tuple #[.int .u64 (s.C[i] : Int), .bool false, .int .i64 0]) ∧ ArTo w w' g (g :: (sb v1 ++ sb v2)) (s.acc op i s.C[i] false) := by
  obtain ⟨g2, cap, cur, rfl, hcur, hc1, hc2, hc3, hc4⟩ := own_form hA.cel (by omega)
  have hci := own_cell hA.cel i (by rw [words_length]; exact hi)
  have hfi := own_frozen hA.cel i
  have h3 := hA.blk.cell 3
  have h2 := hA.blk.cell 2
  simp [words] at h3 h2 hci
  have hbd : (i : Int) < (s.C.length : Int) := by omega
  have hne : g ≠ g2 := hA.blk.ne hcur (by decide)
  have hm1 := hA.most1
  have hlen := hA.len
  have hm2 := hA.most2
  have hgl := hA.blk.lt
  have hg2 := hcur.lt
  have HC := Lib.hid hch
  obtain ⟨was, hwas⟩ : ∃ was, s.C[i] = was := ⟨_, rfl⟩
  rw [hwas] at hci HC ⊢
  have HF := Lib.hid (fun w1 w3 hq hN => acc_close (w := w) (wq := w1) (w3 := w3) (op := op) (did := false) (now := was) hA hi hwas (hwas ▸ hA.wd _ (List.getElem_mem hi)) hq hN)
  have HA := Lib.hid hA
  have HCu := Lib.hid hcur
  clear hch hA hc3 hc4 hwas hcur
  go_enter Try.func109, Try.ntmps109
  go_wp2_with (go_at_call 108; refine (missing_no _ _ _ h2 hm1).mono ?_; rintro e w' ⟨rfl, rfl⟩)
  refine HC.out.mono ?_
  rintro e w1 ⟨rfl, hq⟩
  have HQ := Lib.hid hq
  obtain ⟨nq, rfl⟩ := hq
  go_wp2_with fail
  refine (note_any _ g s.L r (.int .i64 (s.most : Int)) v1 (.slice (some ⟨g2, 0, none⟩) s.C.length cap) ⟨op, i, was, was, false⟩ ?_ ?_ HA.out.ring hn).mono ?_
  · exact Blk.drewN (HA.out.blk.far hne _) nq
  · exact own_drewN (own_setCell HA.out.log ⟨g2, i, none⟩ _ (fun h => (own_ne2 HA.out.log HA.out.cel (by decide)) g2 h (by simp [sb, Value.ownBlock]))) nq
  rintro e w3 ⟨rfl, hN⟩
  have HN := Lib.hid hN
  clear hN
  go_wp2
  refine bodyPost_ret (v := .tuple #[.int .u64 (was : Int), .bool false, .int .i64 0]) (by simp [results, go_sem]) rfl ⟨rfl, HF.out _ _ HQ.out HN.out⟩

set_option maxHeartbeats 1000000 in
theorem access_out (w : World) (g : Nat) (v1 v2 : Value) (r : List Acc) (s : Ar) (op : Int) (at_ : Int) (f : Value) (hA : ArAt w g v1 v2 r s) (hi : at_ < 0 ∨ (s.C.length : Int) ≤ at_) :
    Calls Try.prog 109 #[.pointer (some ⟨g, 0, none⟩), .int .i64 op, .int .i64 at_, f] w fun e w' =>
      e = .returned (.tuple #[.int .u64 0, .bool false, .int .i64 4]) ∧ w = w' := by
  obtain ⟨a2, cap, rfl, hc1, hc2⟩ := own_val hA.cel
  have h3 := hA.blk.cell 3
  have h2 := hA.blk.cell 2
  simp at h3 h2
  have hm1 := hA.most1
  clear hA
  rcases hi with hi | hi
  · go_enter Try.func109, Try.ntmps109
    go_wp2_with (go_at_call 108; refine (missing_no _ _ _ h2 hm1).mono ?_; rintro e w' ⟨rfl, rfl⟩)
    refine bodyPost_ret (v := .tuple #[.int .u64 0, .bool false, .int .i64 4]) (by simp [results, go_sem]) rfl ⟨rfl, rfl⟩
  · have hi0 : ¬ at_ < 0 := by omega
    go_enter Try.func109, Try.ntmps109
    go_wp2_with (go_at_call 108; refine (missing_no _ _ _ h2 hm1).mono ?_; rintro e w' ⟨rfl, rfl⟩)
    refine bodyPost_ret (v := .tuple #[.int .u64 0, .bool false, .int .i64 4]) (by simp [results, go_sem]) rfl ⟨rfl, rfl⟩

/-- No arena: nil, or one that was not made by New. -/
def NoAr (w : World) (p : Value) : Prop := p = .pointer none ∨ ∃ g, p = .pointer (some ⟨g, 0, none⟩) ∧ w.cell? ⟨g, 2, none⟩ = some (.int .i64 0)
theorem missing_yes (p : Value) (w : World) (h : NoAr w p) : Calls Try.prog 108 #[p] w fun e w' => e = .returned (.bool true) ∧ w = w' := by
  rcases h with rfl | ⟨g, rfl, hc⟩
  · exact missing_nil w
  · exact missing_zero g w hc

theorem access_none (w : World) (p : Value) (op : Int) (at_ : Int) (f : Value) (h : NoAr w p) :
    Calls Try.prog 109 #[p, .int .i64 op, .int .i64 at_, f] w fun e w' => e = .returned (.tuple #[.int .u64 0, .bool false, .int .i64 1]) ∧ w = w' := by
  go_enter Try.func109, Try.ntmps109
  go_wp2_with (go_at_call 108; refine (missing_yes _ _ h).mono ?_; rintro e w' ⟨rfl, rfl⟩)
  refine bodyPost_ret (v := .tuple #[.int .u64 0, .bool false, .int .i64 1]) (by simp [results, go_sem]) rfl ⟨rfl, rfl⟩
end Go.Proofs.Ytihmbgdkllmkaaa

/-
  Layer 1: Load, Store, Swap, Add, Len, Most, Count, New (cell.go) at the plain model: for every arena that was made by New, and for none.
-/
namespace Go.Proofs.Ytihmbgdkllmkaaa
open Go.RowKit Go.Shelf
set_option maxRecDepth 100000
set_option linter.unusedVariables false

/-- One access by a change: the arena then, the access, an error. -/
def Ar.doBy (s : Ar) (op : Nat) (at_ : Int) (chg : Nat → Nat × Bool) : Ar × Acc × Nat :=
  if 0 ≤ at_ ∧ at_ < (s.C.length : Int) then
    (s.acc op at_.toNat (if (chg (s.C.getD at_.toNat 0)).2 then (chg (s.C.getD at_.toNat 0)).1 else s.C.getD at_.toNat 0) (chg (s.C.getD at_.toNat 0)).2,
     ⟨op, at_.toNat, s.C.getD at_.toNat 0, if (chg (s.C.getD at_.toNat 0)).2 then (chg (s.C.getD at_.toNat 0)).1 else s.C.getD at_.toNat 0, (chg (s.C.getD at_.toNat 0)).2⟩, 0)
  else (s, Acc.zero, 4)
def chgLoad (was : Nat) : Nat × Bool := (was, true)
def chgStore (v : Nat) (_ : Nat) : Nat × Bool := (v, true)
def chgSwap (old new : Nat) (was : Nat) : Nat × Bool := (new, was == old)
def chgAdd (n : Nat) (was : Nat) : Nat × Bool := ((was + n) % 18446744073709551616, true)
def Ar.load (s : Ar) (at_ : Int) := s.doBy 1 at_ chgLoad
def Ar.store (s : Ar) (at_ : Int) (v : Nat) := s.doBy 2 at_ (chgStore v)
def Ar.swap (s : Ar) (at_ : Int) (old new : Nat) := s.doBy 3 at_ (chgSwap old new)
def Ar.add (s : Ar) (at_ : Int) (n : Nat) := s.doBy 4 at_ (chgAdd n)

/-- What an access answers, and what it leaves. -/
def Did (w w' : World) (g : Nat) (fp : List Nat) (d : Ar × Acc × Nat) (e : Ending) : Prop :=
  e = .returned (.tuple #[.int .u64 (d.2.1.old : Int), .bool d.2.1.did, .int .i64 (d.2.2 : Int)]) ∧ ArTo w w' g fp d.1

theorem ArTo.refl {w : World} {g : Nat} {fp : List Nat} {s : Ar} (h : IsAr w g fp s) : ArTo w w g fp s := ⟨fp, h, Moved.refl _ _⟩

theorem access_any (w : World) (g : Nat) (fp : List Nat) (s : Ar) (op : Nat) (at_ : Int) (fc : Nat) (caps : Array Value) (chg : Nat → Nat × Bool) (hI : IsAr w g fp s)
    (eg : ∀ args w, (callFunc fc args).run Try.prog w = .ok (.enter fc args) w) (hwd : ∀ was, Wd was → Wd (chg was).1)
    (hch : ∀ was, Wd was → Calls Try.prog fc (#[.int .u64 (was : Int)] ++ caps) w fun e w' => e = .returned (.tuple #[.int .u64 ((chg was).1 : Int), .bool (chg was).2]) ∧ Quiet w w') (hn : s.L.length < 4611686018427387904) :
    Calls Try.prog 109 #[.pointer (some ⟨g, 0, none⟩), .int .i64 (op : Int), .int .i64 at_, .func (.func fc) #[] caps] w fun e w' => Did w w' g fp (s.doBy op at_ chg) e := by
  obtain ⟨v1, v2, r, hA, rfl⟩ := hI
  by_cases hin : 0 ≤ at_ ∧ at_ < (s.C.length : Int)
  · obtain ⟨i, rfl⟩ := Int.eq_ofNat_of_zero_le hin.1
    have hi : i < s.C.length := by omega
    have hg : s.C.getD i 0 = s.C[i] := by simp [List.getD, hi]
    have hw := hA.wd _ (List.getElem_mem hi)
    have hd : s.doBy op (i : Int) chg = (s.acc op i (if (chg s.C[i]).2 then (chg s.C[i]).1 else s.C[i]) (chg s.C[i]).2, ⟨op, i, s.C[i], if (chg s.C[i]).2 then (chg s.C[i]).1 else s.C[i], (chg s.C[i]).2⟩, 0) := by
      simp only [Ar.doBy, if_pos hin, Int.toNat_natCast, hg]
    rw [hd]
    cases hb : (chg s.C[i]).2 with
    | true =>
      refine (access_did w g v1 v2 r s op i fc caps (chg s.C[i]).1 (hwd _ hw) hA hi eg ?_ hn).mono ?_
      · have := hch s.C[i] hw
        rwa [hb] at this
      · rintro e w' ⟨rfl, h⟩
        exact ⟨rfl, by simpa using h⟩
    | false =>
      refine (access_not w g v1 v2 r s op i fc caps (chg s.C[i]).1 hA hi eg ?_ hn).mono ?_
      · have := hch s.C[i] hw
        rwa [hb] at this
      · rintro e w' ⟨rfl, h⟩
        exact ⟨rfl, by simpa using h⟩
  · have hd : s.doBy op at_ chg = (s, Acc.zero, 4) := by simp only [Ar.doBy, if_neg hin]
    rw [hd]
    refine (access_out w g v1 v2 r s op at_ _ hA (by omega)).mono ?_
    rintro e w' ⟨rfl, rfl⟩
    exact ⟨rfl, ArTo.refl ⟨v1, v2, r, hA, rfl⟩⟩

theorem load_fn (was : Nat) (w : World) : Calls Try.prog 111 #[.int .u64 (was : Int)] w fun e w' => e = .returned (.tuple #[.int .u64 ((chgLoad was).1 : Int), .bool (chgLoad was).2]) ∧ Quiet w w' := by
  go_enter Try.func111, Try.ntmps111
  go_wp2
  go_ret2
  exact ⟨rfl, Quiet.refl w⟩
theorem swap_val (was old new : Nat) (h : Wd was) (h' : Wd old) : Ending.returned (.tuple #[.int .u64 (new : Int), .bool ((was : Int) == (old : Int))]) = .returned (.tuple #[.int .u64 ((chgSwap old new was).1 : Int), .bool (chgSwap old new was).2]) := by
  have : ((was : Int) == (old : Int)) = (was == old) := by rw [Bool.eq_iff_iff]; simp; omega
  rw [this]; rfl
theorem swap_fn (was old new b c : Nat) (w : World) (hw : Wd was) (ho : Wd old) (hb : w.cell? ⟨b, 0, none⟩ = some (.int .u64 (new : Int))) (hc : w.cell? ⟨c, 0, none⟩ = some (.int .u64 (old : Int))) :
    Calls Try.prog 110 #[.int .u64 (was : Int), .pointer (some ⟨b, 0, none⟩), .pointer (some ⟨c, 0, none⟩)] w fun e w' => e = .returned (.tuple #[.int .u64 ((chgSwap old new was).1 : Int), .bool (chgSwap old new was).2]) ∧ Quiet w w' := by
  have H := Lib.hid (swap_val was old new hw ho)
  go_enter Try.func110, Try.ntmps110
  go_wp2
  go_quiet (fail)
  go_wp2
  go_ret2
  refine ⟨?_, ?_⟩
  · rw [← H.out]; simp
  · exact ⟨_, rfl⟩
theorem add_val (was n : Nat) (h : Wd was) (h' : Wd n) : IntKind.u64.wrap ((was : Int) + (n : Int)) = ((chgAdd n was).1 : Int) := by
  simp only [chgAdd, IntKind.wrap_u64]
  omega
theorem ArTo.of_touch {w w1 w' : World} {g : Nat} {fp : List Nat} {s : Ar} (ht : Touch [] w w1) (h : ArTo w1 w' g fp s) : ArTo w w' g fp s := by
  obtain ⟨fp', hI, hm⟩ := h
  exact ⟨fp', hI, (ht.mono (by simp)).trans hm.touch (fun k hk => .inl hk), fun k hk => (hm.fp k hk).imp id (fun h => Nat.le_trans ht.size h)⟩
theorem ArTo.then {w w1 : World} {g : Nat} {fp : List Nat} {s : Ar} (h : ArTo w w1 g fp s) {w' : World} (ht : Touch [] w1 w') : ArTo w w' g fp s := by
  obtain ⟨fp', hI, hm⟩ := h
  exact ⟨fp', hI.touch ht (by simp), hm.touch.trans ht (by simp), hm.fp⟩

section
variable (w : World) (g : Nat) (fp : List Nat) (s : Ar) (at_ : Int) (hI : IsAr w g fp s) (hn : s.L.length < 4611686018427387904)
include hI hn
theorem Load_any : Calls Try.prog 82 #[.pointer (some ⟨g, 0, none⟩), .int .i64 at_] w fun e w' =>
    e = .returned (.tuple #[.int .u64 ((s.load at_).2.1.old : Int), .int .i64 ((s.load at_).2.2 : Int)]) ∧ ArTo w w' g fp (s.load at_).1 := by
  have H := Lib.hid (access_any w g fp s 1 at_ 111 #[] chgLoad hI (enters_of Try.func111 (by kernel_rfl) rfl) (fun _ h => h) (fun was _ => load_fn was w) hn)
  clear hI hn
  go_enter Try.func82, Try.ntmps82
  go_wp2_with fail
  refine H.out.mono ?_
  rintro e w' ⟨rfl, h⟩
  have H2 := Lib.hid h
  clear h
  go_wp2
  go_ret2
  exact ⟨rfl, H2.out⟩
theorem Swap_any (old new : Nat) (ho : Wd old) (hw : Wd new) : Calls Try.prog 80 #[.pointer (some ⟨g, 0, none⟩), .int .i64 at_, .int .u64 (old : Int), .int .u64 (new : Int)] w fun e w' =>
    e = .returned (.tuple #[.int .u64 ((s.swap at_ old new).2.1.old : Int), .bool (s.swap at_ old new).2.1.did, .int .i64 ((s.swap at_ old new).2.2 : Int)]) ∧ ArTo w w' g fp (s.swap at_ old new).1 := by
  have H := Lib.hid (access_any ((w.alloc (.cells #[.int .u64 (old : Int)] 127)).alloc (.cells #[.int .u64 (new : Int)] 127)) g fp s 3 at_ 110 #[.pointer (some ⟨w.heap.size + 1, 0, none⟩), .pointer (some ⟨w.heap.size, 0, none⟩)] (chgSwap old new) ((hI.alloc _).alloc _)
    (enters_of Try.func110 (by kernel_rfl) rfl) (fun _ _ => hw) (fun was hwas => swap_fn was old new _ _ _ hwas ho (by simp) (by simp)) hn)
  have HT := Lib.hid (((Touch.refl [] w).alloc (.cells #[.int .u64 (old : Int)] 127)).alloc (.cells #[.int .u64 (new : Int)] 127))
  clear hI hn
  go_enter Try.func80, Try.ntmps80
  go_wp2_with fail
  refine H.out.mono ?_
  rintro e w' ⟨rfl, h⟩
  have H2 := Lib.hid h
  clear h
  go_wp2
  refine bodyPost_ret (v := .tuple #[.int .u64 ((s.swap at_ old new).2.1.old : Int), .bool (s.swap at_ old new).2.1.did, .int .i64 ((s.swap at_ old new).2.2 : Int)]) (by simp [results, go_sem, Ar.swap]) rfl ⟨rfl, H2.out.of_touch HT.out⟩
end

section
variable (w : World) (g : Nat) (fp : List Nat) (s : Ar) (hI : IsAr w g fp s)
include hI
theorem Len_any : Calls Try.prog 92 #[.pointer (some ⟨g, 0, none⟩)] w fun e w' => e = .returned (.int .i64 (s.C.length : Int)) ∧ w = w' := by
  obtain ⟨v1, v2, r, hA, rfl⟩ := hI
  obtain ⟨a2, cap, rfl, hc1, hc2⟩ := own_val hA.cel
  have h3 := hA.blk.cell 3
  have h2 := hA.blk.cell 2
  simp at h3 h2
  have hm1 := hA.most1
  clear hA
  go_enter Try.func92, Try.ntmps92
  go_wp2_with (go_at_call 108; refine (missing_no _ _ _ h2 hm1).mono ?_; rintro e w' ⟨rfl, rfl⟩)
  go_ret
  exact ⟨rfl, rfl⟩
theorem Count_any : Calls Try.prog 99 #[.pointer (some ⟨g, 0, none⟩)] w fun e w' => e = .returned (.int .u64 (s.L.length : Int)) ∧ w = w' := by
  obtain ⟨v1, v2, r, hA, rfl⟩ := hI
  have h2 := hA.blk.cell 2
  have h0 := hA.blk.cell 0
  simp at h2 h0
  have hm1 := hA.most1
  clear hA
  go_enter Try.func99, Try.ntmps99
  go_wp2_with (go_at_call 108; refine (missing_no _ _ _ h2 hm1).mono ?_; rintro e w' ⟨rfl, rfl⟩)
  go_ret
  exact ⟨rfl, rfl⟩
end

/-- What New makes. -/
def Ar.fresh (most : Nat) : Ar := ⟨[], most, []⟩
theorem New_ok (most : Nat) (w : World) (h1 : 1 ≤ most) (h2 : most ≤ 65536) : Calls Try.prog 34 #[.int .i64 (most : Int)] w fun e w' =>
   e = .returned (.tuple #[.pointer (some ⟨w.heap.size, 0, none⟩), .int .i64 0]) ∧ IsAr w' w.heap.size [w.heap.size] (Ar.fresh most) ∧ Touch [] w w' := by
  go_enter Try.func34, Try.ntmps34
  go_wp2
  go_ret2
  exact ⟨rfl, ⟨.slice none 0 0, .slice none 0 0, [], ⟨Blk.new _ _ _, World.ownsRow_nil _ _ _ _, World.ownsRow_nil _ _ _ _, Ring.nil, h1, h2, Nat.zero_le _, by simp [Ar.fresh]⟩, rfl⟩, (Touch.refl [] w).alloc _⟩
theorem New_no (most : Int) (w : World) (h : most < 1 ∨ 65536 < most) : Calls Try.prog 34 #[.int .i64 most] w fun e w' =>
   e = .returned (.tuple #[.pointer none, .int .i64 2]) ∧ w = w' := by
  rcases h with h | h
  · go_enter Try.func34, Try.ntmps34
    go_wp2
    go_ret2
    exact ⟨rfl, rfl⟩
  · have h' : ¬ most < 1 := by omega
    go_enter Try.func34, Try.ntmps34
    go_wp2
    go_ret2
    exact ⟨rfl, rfl⟩
end Go.Proofs.Ytihmbgdkllmkaaa

/-
  'append(s, make([]T, k)...)' onto a row that s owns, T of one cell: no program is in sight.
-/
namespace Go.Proofs.Ytihmbgdkllmkaaa
open Go.RowKit

theorem zeroCells_one (z : Value) (k : Nat) : (Builtin.zeroCells #[z] k) = (List.replicate k z).toArray := by
  apply Array.ext
  · simp [Builtin.zeroCells]
  · intro i h1 h2
    simp [Builtin.zeroCells, Nat.mod_one]

theorem run_append_zeros {P : Program} (w : World) (t tn ty e : TypeId) (i : TypeInfo) (z : Value) (kq kn : IntKind) (ht : P.underlying t = some (.slice e)) (htn : P.underlying tn = some (.int kn)) (hi : P.info? e = some i) (hz : i.zero = some z)
    (hsize : i.size = 1) (hby : i.bytes = 8) (hzs : z.cells = #[z]) (h1 : z.oneCell' = true)
    (v : Value) (n : Nat) (xs : List Value) (hown : w.ownsRow 0 e 1 v n xs) (k : Nat) (hk : n + k ≤ 1048576) :
    ∃ v' w', (Builtin.append_ #[t, tn] ty #[v, .int kq (k : Int)]).run P w = .ok v' w' ∧ w'.ownsRow 0 e 1 v' (n + k) (xs ++ List.replicate k z) ∧ w.grownBy w' v.ownBlock ∧
      (v'.ownBlock = v.ownBlock ∨ v'.ownBlock = some w.heap.size) := by
  have hw : IntKind.i64.wrap (k : Int) = k := by rw [IntKind.wrap_i64]; omega
  have hneg : ¬ ((k : Int) < 0) := by omega
  have h48i : ¬ (281474976710656 < (k : Int) * 8) := by omega
  have hxl : xs.length = n := by simpa using hown.1
  have grown : ∀ (old : Nat), old < n + k → ∀ (row : Option Nat),
      (w.drew.alloc (.cells (xs.toArray ++ Builtin.zeroCells z.cells k ++ Builtin.zeroCells z.cells (grownCap w (n + k) old e - (n + k))) e)).ownsRow 0 e 1
        (.slice (some ⟨w.heap.size, 0, none⟩) (n + k) (grownCap w (n + k) old e)) (n + k) (xs ++ List.replicate k z) ∧
      w.grownBy (w.drew.alloc (.cells (xs.toArray ++ Builtin.zeroCells z.cells k ++ Builtin.zeroCells z.cells (grownCap w (n + k) old e - (n + k))) e)) row := by
    intro old ho row
    have hge := grownCap_ge w (n + k) old e
    have hcm : grownCap w (n + k) old e ≤ maxLen := grownCap_le_maxLen w (n + k) old e (by simp only [maxLen]; omega)
    refine ⟨⟨by simp [hxl], .inr ⟨w.heap.size, _, _, rfl, Nat.zero_le _, heap_alloc_new w.drew _, hge, hcm, ?_, ?_⟩⟩, ⟨rfl, rfl, rfl, by simp, fun k hk _ => Below.heap_alloc w.drew _ k hk⟩⟩
    · simp only [hzs, zeroCells_one, Array.size_append, List.size_toArray, List.length_replicate, hxl]
      omega
    · simp only [hzs, zeroCells_one, Array.toList_append]
      rw [List.take_left' (by simp [hxl])]
  rcases hown.2 with ⟨rfl, rfl⟩ | ⟨g, cap, cur, rfl, hbg, hg, hnc, hcm, hcs, htake⟩
  · have hx : xs = [] := List.eq_nil_of_length_eq_zero hxl
    subst hx
    by_cases hm : k = 0
    · subst hm
      refine ⟨.slice none 0 0, w, ?_, World.ownsRow_nil w 0 e 1, World.grownBy.refl w _, .inl rfl⟩
      simp [Builtin.append_, run_underlying ht, run_underlying htn, sizeOf, typeInfo, hi, asInt, asIntOf, IntKind.wrap_i64]
    · have hr := Lib.run_append_nil_zeros (P := P) w t tn ty e i z kq kn ht htn hi hz k (by omega) (by omega) (by omega) (by rw [hby]; omega)
      have hgr := grown 0 (by omega) (Value.ownBlock (.slice none 0 0))
      simp only [Nat.zero_add, List.nil_append, Array.empty_append] at hgr ⊢
      exact ⟨_, _, hr, hgr.1, hgr.2, .inr rfl⟩
  · by_cases hroom : n + k ≤ cap
    · have hrep : ∀ u ∈ List.replicate k z, u.oneCell' = true := fun u hu => by rw [List.eq_of_mem_replicate hu]; exact h1
      have hst := run_storeCells_at P g n e (List.replicate k z) 0 cur w hg (by simp; omega) hrep
      simp only [Nat.add_zero] at hst
      have hr : (Builtin.append_ #[t, tn] ty #[.slice (some ⟨g, 0, none⟩) n cap, .int kq (k : Int)]).run P w = .ok (.slice (some ⟨g, 0, none⟩) (n + k) cap) (w.setRow g (cur.toList.take n ++ List.replicate k z ++ cur.toList.drop (n + k)).toArray) := by
        by_cases hm : k = 0
        · subst hm
          have hself := setRow_self w g cur e (0, 0) hg
          simp [Builtin.append_, run_underlying ht, run_underlying htn, sizeOf, typeInfo, hi, asInt, asIntOf, IntKind.wrap_i64, hnc, storeCells]
          exact hself.symm
        · simp only [List.length_replicate] at hst
          simp [Builtin.append_, run_underlying ht, run_underlying htn, sizeOf, typeInfo, zeroValue, hi, hz, asInt, asIntOf, hw, hneg, hby, h48i, hroom, hsize, hm, Addr.add_lit, hzs, zeroCells_one, hst]
      refine ⟨_, _, hr, ⟨by simp [hxl], .inr ⟨g, cap, _, rfl, hbg, setRow_heap w g cur _ e _ hg, hroom, hcm, ?_, ?_⟩⟩, ⟨rfl, rfl, rfl, by simp, fun j _ hj => setRow_other w g j _ (fun e => hj (by simp [Value.ownBlock, e]))⟩, .inl rfl⟩
      · simp only [List.size_toArray, List.length_append, List.length_take, List.length_drop, Array.length_toList, List.length_replicate]
        omega
      · have ht' : cur.toList.take n = xs := by simpa using htake
        rw [ht']
        simp only [Nat.mul_one]
        rw [List.take_left' (by simp [hxl])]
    · have holds : ∀ j u, xs[j]? = some u → w.drew.cell? ((⟨g, 0, none⟩ : Addr).add j) = some u := hown.cells (g := g) rfl
      have hr := Lib.run_append_grow_zeros (P := P) w t tn ty e i z kq kn ht htn hi hz (some ⟨g, 0, none⟩) n cap xs (run_firstCells_some w.drew i.size n _ _ _ xs (by rw [hsize]; simpa using hxl) holds) k (by omega) (by omega) (by omega) (by omega) (by rw [hby]; omega) (growslice_fits (by omega) (by rw [hby]; omega))
      have hgr := grown cap (by omega) (Value.ownBlock (.slice (some ⟨g, 0, none⟩) n cap))
      exact ⟨_, _, hr, hgr.1, hgr.2, .inr rfl⟩

/-- At the operation, in a plain region. -/
theorem wpList_append_zeros {P : Program} (w : World) {ops : Array Oper} {rest : List Oper} {o : Oper} {a : Act} {Q : Exit → Act → World → Prop} (hgd : o.guard = none) (s x : Operand) (t tn : TypeId)
    (ho : o.op = .call { callee := .builtin .append, args := #[s, x], argTypes := #[t, tn] })
    (e : TypeId) (i : TypeInfo) (z : Value) (kq kn : IntKind) (ht : P.underlying t = some (.slice e)) (htn : P.underlying tn = some (.int kn)) (hi : P.info? e = some i) (hz : i.zero = some z)
    (hsize : i.size = 1) (hby : i.bytes = 8) (hzs : z.cells = #[z]) (h1 : z.oneCell' = true)
    (v : Value) (n : Nat) (xs : List Value) (hs : a.eval s = v) (hown : w.ownsRow 0 e 1 v n xs) (k : Nat) (hx : a.eval x = .int kq (k : Int)) (hk : n + k ≤ 1048576)
    (h : ∀ aa cap w', w'.ownsRow 0 e 1 (.slice aa (n + k) cap) (n + k) (xs ++ List.replicate k z) → w.grownBy w' v.ownBlock → ((Value.slice aa (n + k) cap).ownBlock = v.ownBlock ∨ (Value.slice aa (n + k) cap).ownBlock = some w.heap.size) → wpList P ops Q rest (a.put o.dst (.slice aa (n + k) cap)) w') :
    wpList P ops Q (o :: rest) a w := by
  obtain ⟨v', w', hr, h2, h3, h4⟩ := run_append_zeros (P := P) w t tn o.type e i z kq kn ht htn hi hz hsize hby hzs h1 v n xs hown k hk
  obtain ⟨aa, cap, rfl, _, _⟩ := own_val h2
  exact Lib.wpList_append_run w hgd s x t tn ho v _ hs hx _ w' hr (h aa cap w' h2 h3 h4)
end Go.Proofs.Ytihmbgdkllmkaaa

/-
  Layer 1: Alloc (cell.go): for every arena that was made by New.
-/
namespace Go.Proofs.Ytihmbgdkllmkaaa
open Go.RowKit Go.Shelf
set_option maxRecDepth 100000
set_option linter.unusedVariables false

theorem info_uint64 : (Try.prog.info? 127).map (fun i => (i.zero, i.size, i.bytes)) = some (some (.int .u64 0), 1, 8) := by kernel_rfl

/-- Alloc: the arena then, the place, an error. -/
def Ar.allocA (s : Ar) (n : Int) : Ar × Nat × Nat :=
  if n < 0 then (s, 0, 2) else if (s.most : Int) - (s.C.length : Int) < n then (s, 0, 6) else ({ s with C := s.C ++ List.replicate n.toNat 0 }, s.C.length, 0)

theorem words_replicate (k : Nat) : words (List.replicate k 0) = List.replicate k (.int .u64 0) := by simp [words]

theorem alloc_close {w w0 w1 : World} {g k : Nat} {v1 v2 v' : Value} {r : List Acc} {s : Ar} (hA : ArAt w g v1 v2 r s) (hq : Quiet w w0) (hk : s.C.length + k ≤ s.most)
    (hown : w1.ownsRow 0 127 1 v' (s.C.length + k) (words s.C ++ List.replicate k (.int .u64 0))) (hgrow : w0.grownBy w1 v2.ownBlock) (hat : v'.ownBlock = v2.ownBlock ∨ v'.ownBlock = some w0.heap.size) :
    ArTo w (w1.setCell ⟨g, 3, none⟩ v') g (g :: (sb v1 ++ sb v2)) { s with C := s.C ++ List.replicate k 0 } := by
  obtain ⟨nq, rfl⟩ := hq
  have hgn : some g ≠ v2.ownBlock := fun h => own_ne hA.cel hA.blk (by decide) (by simp [sb, ← h])
  have B1 := (hA.blk.drewN nq).grown hgrow hgn
  have hgo := own_ne hown B1 (by decide)
  have h12 := own_ne2 hA.log hA.cel (by decide)
  have hT : Touch (g :: (sb v1 ++ sb v2)) w w1 := ((Touch.refl _ w).drewN nq).grown hgrow (fun j hj => .inl (by simp [sb, hj]))
  have hL : w1.ownsRow 0 175 5 v1 r.length (accCells r) := own_keep (own_drewN hA.log nq) (fun j hj => hgrow.block j (own_lt hA.log j hj) (fun h => h12 j hj (by simp [sb, ← h])))
  refine ⟨g :: (sb v1 ++ sb v'), ⟨v1, v', r, ⟨?_, ?_, ?_, hA.ring, hA.most1, hA.most2, ?_, ?_⟩, rfl⟩, hT.setCell _ _ (.inl (by simp)), ?_⟩
  · have := B1.set 3 v'
    simpa using this
  · exact own_setCell hL _ _ (own_ne hL B1 (by decide))
  · have := own_setCell hown ⟨g, 3, none⟩ v' hgo
    rw [words_append, words_replicate]
    simpa using this
  · simp; omega
  · intro n hn
    rcases List.mem_append.1 hn with h | h
    · exact hA.wd n h
    · rw [List.eq_of_mem_replicate h]; unfold Wd; omega
  · intro j hj
    simp only [List.mem_cons, List.mem_append] at hj ⊢
    rcases hj with h | h | h
    · exact .inl (.inl h)
    · exact .inl (.inr (.inl h))
    · rcases hat with h2 | h2
      · exact .inl (.inr (.inr (by simpa [sb, h2] using h)))
      · have : j = w.heap.size := by simpa [sb, h2] using h
        exact .inr (by omega)

set_option maxHeartbeats 1000000 in
theorem Alloc_any (w : World) (g : Nat) (fp : List Nat) (s : Ar) (n : Int) (hI : IsAr w g fp s) : Calls Try.prog 77 #[.pointer (some ⟨g, 0, none⟩), .int .i64 n] w fun e w' =>
    e = .returned (.tuple #[.int .i64 ((s.allocA n).2.1 : Int), .int .i64 ((s.allocA n).2.2 : Int)]) ∧ ArTo w w' g fp (s.allocA n).1 := by
  obtain ⟨i0, hi, hz0, hz1, hz2⟩ := info_parts info_uint64
  have hR := Lib.hid (fun (w' : World) (hq : Quiet w w') => show ArTo w w' g fp s from (by obtain ⟨k, rfl⟩ := hq; exact ⟨fp, hI.drewN k, (Moved.refl _ _).drewN k⟩))
  obtain ⟨v1, v2, r, hA, rfl⟩ := hI
  obtain ⟨a2, cap, rfl, hc1, hc2⟩ := own_val hA.cel
  have h3 := hA.blk.cell 3
  have h2 := hA.blk.cell 2
  have f3 := hA.blk.frozen 3
  simp at h3 h2
  have hm1 := hA.most1
  have hm2 := hA.most2
  have hle := hA.len
  have hgl := hA.blk.lt
  have HA := Lib.hid hA
  clear hA
  by_cases hn : n < 0
  · have hv : s.allocA n = (s, 0, 2) := by simp [Ar.allocA, hn]
    rw [hv]
    go_enter Try.func77, Try.ntmps77
    go_wp2_with (go_at_call 108; refine (missing_no _ _ _ h2 hm1).mono ?_; rintro e w' ⟨rfl, rfl⟩)
    go_ret2
    exact ⟨rfl, hR.out _ (Quiet.refl w)⟩
  · by_cases hf : (s.most : Int) - (s.C.length : Int) < n
    · have hv : s.allocA n = (s, 0, 6) := by simp [Ar.allocA, hn, hf]
      rw [hv]
      go_enter Try.func77, Try.ntmps77
      go_wp2_with (go_at_call 108; refine (missing_no _ _ _ h2 hm1).mono ?_; rintro e w' ⟨rfl, rfl⟩)
      go_quiet (fail)
      go_wp2
      go_ret2
      exact ⟨rfl, hR.out _ ⟨_, rfl⟩⟩
    · obtain ⟨k, rfl⟩ := Int.eq_ofNat_of_zero_le (Int.not_lt.1 hn)
      have hv : s.allocA (k : Int) = ({ s with C := s.C ++ List.replicate k 0 }, s.C.length, 0) := by simp [Ar.allocA, hn, hf]
      rw [hv]
      have hk : s.C.length + k ≤ s.most := by omega
      have hcel := HA.out.cel
      have HC := Lib.hid hcel
      have hgn : some g ≠ (Value.slice a2 s.C.length cap).ownBlock := fun h => own_ne hcel HA.out.blk (by decide) (by simp [sb, ← h])
      have HG := Lib.hid hgn
      clear hv hcel hgn
      go_enter Try.func77, Try.ntmps77
      go_wp2_with (go_at_call 108; refine (missing_no _ _ _ h2 hm1).mono ?_; rintro e w' ⟨rfl, rfl⟩)
      go_quiet (fail)
      go_wp2_with (at_builtin; refine wpList_append_zeros _ rfl (.tmp 31) (.tmp 32) 98 3 rfl 127 i0 (.int .u64 0) .i64 .i64 Try.underlying98 Try.underlying3 hi hz0 hz1 hz2 rfl rfl _ _ _ rfl (own_drewN HC.out _) k rfl (by omega) ?_; intro aa cap' w1 hown hgrow hat; have B1 := (HA.out.blk.drewN _).grown hgrow HG.out; have k3 := B1.cell 3; have e3 := B1.frozen 3; simp at k3; have H1 := Lib.hid hown; have H2 := Lib.hid hgrow; have H3 := Lib.hid hat; clear hown hgrow hat B1)
      go_ret2
      exact ⟨rfl, alloc_close HA.out ⟨_, rfl⟩ hk H1.out H2.out H3.out⟩
end Go.Proofs.Ytihmbgdkllmkaaa

/-
  append inside a fence, and where the new slice lies: no program is in sight.
-/
namespace Go.Proofs.Ytihmbgdkllmkaaa
open Go.RowKit

theorem wpListIn_append_run {F : Fence} {n : Nat} {P : Program} (w : World) {ops : Array Oper} {rest : List Oper} {o : Oper} {a : Act} {Q : Exit → Act → World → Prop} (hgd : o.guard = none) (s x : Operand) (t tn : TypeId)
    (ho : o.op = .call { callee := .builtin .append, args := #[s, x], argTypes := #[t, tn] }) (vs vx : Value) (hs : a.eval s = vs) (hx : a.eval x = vx)
    (v' : Value) (w' : World) (hr : (Builtin.append_ #[t, tn] o.type #[vs, vx]).run P w = .ok v' w') (h : wpListIn F n P ops Q rest (a.put o.dst v') w') : wpListIn F n P ops Q (o :: rest) a w := by
  refine wpListIn_plain hgd fun K hK' => ?_
  unfold Oper.wpIn
  refine ⟨?_, ?_⟩
  · simp [Oper.about, ho, resolve, Target.leads, Sem.run_pure]
  · rw [Oper.semAt_plain F _ _ (by rw [ho]; intro c hc'; cases hc')]
    simp [execOp, ho, resolve, invoke, builtin, hs, hx, hr, Result.andThen]
    exact hK' _ _ h

theorem wpListIn_append_lies {F : Fence} {n : Nat} {P : Program} (w : World) {ops : Array Oper} {rest : List Oper} {o : Oper} {a : Act} {Q : Exit → Act → World → Prop} (hgd : o.guard = none) (s x : Operand) (t : TypeId)
    (ho : o.op = .call { callee := .builtin .append, args := #[s, x], argTypes := #[t, t] })
    (e : TypeId) (i : TypeInfo) (z : Value) (size bytes : Nat) (ht : P.underlying t = some (.slice e)) (hi : P.info? e = some i) (hz : i.zero = some z)
    (hsize : i.size = size) (hby : i.bytes = bytes) (hzs : z.cells.size = size) (hsz : 0 < size)
    (v : Value) (k : Nat) (xs : List Value) (hs : a.eval s = v) (hown : w.ownsRow 0 e size v k xs)
    (ad : Addr) (m c : Nat) (news : List Value) (hx : a.eval x = .slice (some ad) m c) (hl : news.length = m * size) (hnews : ∀ j u, news[j]? = some u → w.cell? (ad.add j) = some u) (h1 : ∀ u ∈ news, u.oneCell' = true)
    (hm : 0 < m) (h63 : k + m ≤ maxLen) (hbytes : (k + m) * bytes ≤ 140737488355328)
    (h : ∀ g cap w', w'.ownsRow 0 e size (.slice (some ⟨g, 0, none⟩) (k + m) cap) (k + m) (xs ++ news) → w.grownBy w' v.ownBlock → (v.ownBlock = some g ∨ g = w.heap.size) → g < w'.heap.size → wpListIn F n P ops Q rest (a.put o.dst (.slice (some ⟨g, 0, none⟩) (k + m) cap)) w') : wpListIn F n P ops Q (o :: rest) a w := by
  obtain ⟨g, cap, w', hr, h2, h3, h4, h5⟩ := run_append_lies (P := P) w t o.type 0 e i z size bytes ht hi hz hsize hby hzs hsz v k xs hown ad m c news hl hnews h1 hm h63 hbytes (Nat.zero_le _) _ rfl
  exact wpListIn_append_run w hgd s x t t ho v _ hs hx _ w' hr (h g cap w' h2 h3 h4 h5)

theorem one_new (w : World) (x : Value) (t : TypeId) : ∀ j u, [x][j]? = some u → (w.alloc (.cells #[x] t)).cell? ((⟨w.heap.size, 0, none⟩ : Addr).add j) = some u :=
  World.news_of_block (cs := #[x]) (heap_alloc_new w (.cells #[x] t))
end Go.Proofs.Ytihmbgdkllmkaaa

/-
  append of a whole slice (nil, empty or not) onto a row of the call's own. No program is in sight.
-/
namespace Go.Proofs.Ytihmbgdkllmkaaa
open Go.RowKit

theorem run_append_src {P : Program} (w : World) (t ty e : TypeId) (i : TypeInfo) (z : Value) (size bytes : Nat) (ht : P.underlying t = some (.slice e)) (hi : P.info? e = some i) (hz : i.zero = some z)
    (hsize : i.size = size) (hby : i.bytes = bytes) (hzs : z.cells.size = size) (hsz : 0 < size)
    (v : Value) (n : Nat) (xs : List Value) (hown : w.ownsRow 0 e size v n xs) (vx : Value) (m : Nat) (news : List Value) (hsrc : w.ownsRow 0 e size vx m news) (h1 : ∀ u ∈ news, u.oneCell' = true)
    (h63 : n + m ≤ maxLen) (hbytes : (n + m) * bytes ≤ 140737488355328) :
    ∃ aa cap w', (Builtin.append_ #[t, t] ty #[v, vx]).run P w = .ok (.slice aa (n + m) cap) w' ∧ w'.ownsRow 0 e size (.slice aa (n + m) cap) (n + m) (xs ++ news) ∧ w.grownBy w' v.ownBlock ∧
      ((Value.slice aa (n + m) cap).ownBlock = v.ownBlock ∨ (Value.slice aa (n + m) cap).ownBlock = some w.heap.size) := by
  rcases hsrc.2 with ⟨rfl, rfl⟩ | ⟨g, cap, cur, rfl, hbg, hg, hnc, hcm, hcs, htake⟩
  · have hn : news = [] := List.eq_nil_of_length_eq_zero (by simpa using hsrc.1)
    subst hn
    rcases hown.2 with ⟨rfl, rfl⟩ | ⟨g, cap, cur, rfl, hbg, hg, hnc, hcm, hcs, htake⟩
    · refine ⟨none, 0, w, ?_, by simpa using hown, World.grownBy.refl w _, .inl rfl⟩
      simp [Builtin.append_, run_underlying ht, sizeOf, typeInfo, hi, Builtin.lenOf, Builtin.firstCells]
    · refine ⟨some ⟨g, 0, none⟩, cap, w, ?_, by simpa using hown, World.grownBy.refl w _, .inl rfl⟩
      simp [Builtin.append_, run_underlying ht, sizeOf, typeInfo, hi, Builtin.lenOf, Builtin.firstCells, storeCells, hnc]
  · obtain ⟨v', w', hr, h2, h3, _, h5⟩ := run_append_own_at (P := P) w 0 t ty e i z size bytes ht hi hz hsize hby hzs hsz v n xs hown ⟨g, 0, none⟩ m cap news hsrc.1 (hsrc.cells (g := g) rfl) h1 h63 hbytes (Nat.zero_le _)
    obtain ⟨aa, c, rfl, _, _⟩ := own_val h2
    exact ⟨aa, c, w', hr, h2, h3, h5⟩

/-- At the operation, in a plain region. -/
theorem wpList_append_src {P : Program} (w : World) {ops : Array Oper} {rest : List Oper} {o : Oper} {a : Act} {Q : Exit → Act → World → Prop} (hgd : o.guard = none) (s x : Operand) (t : TypeId)
    (ho : o.op = .call { callee := .builtin .append, args := #[s, x], argTypes := #[t, t] })
    (e : TypeId) (i : TypeInfo) (z : Value) (size bytes : Nat) (ht : P.underlying t = some (.slice e)) (hi : P.info? e = some i) (hz : i.zero = some z)
    (hsize : i.size = size) (hby : i.bytes = bytes) (hzs : z.cells.size = size) (hsz : 0 < size)
    (v : Value) (n : Nat) (xs : List Value) (hs : a.eval s = v) (hown : w.ownsRow 0 e size v n xs) (vx : Value) (m : Nat) (news : List Value) (hx : a.eval x = vx) (hsrc : w.ownsRow 0 e size vx m news) (h1 : ∀ u ∈ news, u.oneCell' = true)
    (h63 : n + m ≤ maxLen) (hbytes : (n + m) * bytes ≤ 140737488355328)
    (h : ∀ aa cap w', w'.ownsRow 0 e size (.slice aa (n + m) cap) (n + m) (xs ++ news) → w.grownBy w' v.ownBlock → ((Value.slice aa (n + m) cap).ownBlock = v.ownBlock ∨ (Value.slice aa (n + m) cap).ownBlock = some w.heap.size) → wpList P ops Q rest (a.put o.dst (.slice aa (n + m) cap)) w') :
    wpList P ops Q (o :: rest) a w := by
  obtain ⟨aa, cap, w', hr, h2, h3, h4⟩ := run_append_src (P := P) w t o.type e i z size bytes ht hi hz hsize hby hzs hsz v n xs hown vx m news hsrc h1 h63 hbytes
  exact Lib.wpList_append_run w hgd s x t t ho v _ hs hx _ w' hr (h aa cap w' h2 h3 h4)

/-- At a step of a region that draws its order. -/
theorem step_append_src {P : Program} (w : World) {ops : Array Oper} {o : Oper} {a : Act} {K : Act → World → Prop} {Q : Exit → Act → World → Prop} {E : Prop} (hgd : o.guard = none) (s x : Operand) (t : TypeId)
    (ho : o.op = .call { callee := .builtin .append, args := #[s, x], argTypes := #[t, t] })
    (e : TypeId) (i : TypeInfo) (z : Value) (size bytes : Nat) (ht : P.underlying t = some (.slice e)) (hi : P.info? e = some i) (hz : i.zero = some z)
    (hsize : i.size = size) (hby : i.bytes = bytes) (hzs : z.cells.size = size) (hsz : 0 < size)
    (v : Value) (n : Nat) (xs : List Value) (hs : a.eval s = v) (hown : w.ownsRow 0 e size v n xs) (vx : Value) (m : Nat) (news : List Value) (hx : a.eval x = vx) (hsrc : w.ownsRow 0 e size vx m news) (h1 : ∀ u ∈ news, u.oneCell' = true)
    (h63 : n + m ≤ maxLen) (hbytes : (n + m) * bytes ≤ 140737488355328)
    (h : ∀ aa cap w', w'.ownsRow 0 e size (.slice aa (n + m) cap) (n + m) (xs ++ news) → w.grownBy w' v.ownBlock → ((Value.slice aa (n + m) cap).ownBlock = v.ownBlock ∨ (Value.slice aa (n + m) cap).ownBlock = some w.heap.size) → K (a.put o.dst (.slice aa (n + m) cap)) w') :
    if Region.wanted o (yielded ops a.tmps) = true then Oper.wp P o a w K Q else E := by
  obtain ⟨aa, cap, w', hr, h2, h3, h4⟩ := run_append_src (P := P) w t o.type e i z size bytes ht hi hz hsize hby hzs hsz v n xs hown vx m news hsrc h1 h63 hbytes
  rw [if_pos (by simp [Region.wanted, hgd])]
  unfold Oper.wp execOp
  simp only [ho, resolve, invoke, builtin, Sem.run_bind, Sem.run_pure, Result.andThen_ok, List.map_toArray, List.map_cons, List.map_nil, hs, hx, hr]
  exact h aa cap w' h2 h3 h4
end Go.Proofs.Ytihmbgdkllmkaaa
