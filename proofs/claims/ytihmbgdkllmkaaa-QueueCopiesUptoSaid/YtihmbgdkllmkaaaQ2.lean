/-
  Layer 13: New, Push (queue.go).
-/
import Derived.Test.YtihmbgdkllmkaaaRefE
import Derived.Test.YtihmbgdkllmkaaaGoto
namespace Go.Proofs.Ytihmbgdkllmkaaa
open Go.RowKit Go.Shelf
set_option maxRecDepth 100000
set_option linter.unusedVariables false
set_option linter.unusedSimpArgs false

theorem info_ent : (Try.prog.info? 27).map (fun i => (i.zero, i.size, i.bytes)) = some (some (.agg #[.int .i64 0, .int .i64 0, .int .i64 0, .int .i64 0, .int .i64 0, .int .i64 0, .slice none 0 0]), 7, 72) := by kernel_rfl
theorem build_list (w : World) : (Instr.build 65 #[(0, .bool true)]).run Try.prog w = .ok (.agg #[.bool true, .slice none 0 0]) w := run_build w 65 _ _ (by kernel_rfl)
theorem build_queue (a b : Value) (w : World) (h : Try.prog.built 67 [(0, .agg #[a, b])] = some #[a, b]) : (Instr.build 67 #[(0, .agg #[a, b])]).run Try.prog w = .ok (.agg #[a, b]) w := run_build w 67 _ _ h
set_option maxHeartbeats 1000000 in
theorem New_q {T : List Nat} {w0 : World} {l : List Thing} (w : World) (h : Led T w0 w l) : Calls Try.prog 13 #[] w fun e w' => ∃ g, e = .returned (.pointer (some ⟨g, 0, none⟩)) ∧ Led T w0 w' (l ++ [queueT g []]) := by
  have hb1 := build_list
  have hb2 : ∀ W, (Instr.build 67 #[(0, .agg #[.bool true, .slice none 0 0])]).run Try.prog W = .ok (.agg #[.bool true, .slice none 0 0]) W := fun W => build_queue _ _ W (by kernel_rfl)
  have H := Lib.hid h
  clear h
  go_enter Try.func13, Try.ntmps13
  go_wp2
  go_ret
  refine ⟨w.heap.size, rfl, ?_⟩
  have h := (H.out.alloc 67 #[.bool true, .slice none 0 0]).rowSnil 27 7
  rw [List.append_assoc] at h
  exact Led.shutQ (es := []) h

/-- What Push of xs onto n entries takes: the first k; an error. -/
def PushR (n : Nat) (xs : List PE) (k : Nat) (err : Int) : Prop :=
  (∀ i (h : i < xs.length), i < k → xs[i].Ok) ∧ n + k ≤ 4096 ∧ k ≤ xs.length ∧ ((err = 0 ∧ k = xs.length) ∨ ∃ h : k < xs.length, (err = 2 ∧ ¬ xs[k].Ok) ∨ (err = 6 ∧ xs[k].Ok ∧ n + k = 4096))
def Pushed (T : List Nat) (w : World) (g : Nat) (es xs : List ME) (e : Ending) (w' : World) : Prop :=
  ∃ k err ys, e = .returned (.int .i64 err) ∧ PushR es.length (xs.map ME.plain) k err ∧ ys.map ME.plain = (xs.map ME.plain).take k ∧ Led T w w' [queueT g (es ++ ys), valsT (ys.map ME.v)]
/-- The frame of one thing: what is beside it is kept. -/
theorem Led.frameK {T : List Nat} {w0 w : World} {l : List Thing} {t : Thing} (h : Led T w0 w l) (i : Nat) (hi : l[i]? = some t) :
    ∃ T', Led T' w w [t] ∧ (∀ k ∈ T', k ∈ T ∨ w0.heap.size ≤ k) ∧ (∀ W, Touch T' w W → ∀ j u, j ≠ i → l[j]? = some u → ∃ f, u.holds W f) ∧ ∀ w' t' rest, Led T' w w' (t' :: rest) → Led T w0 w' (l.set i t' ++ rest) := by
  have hz := h.size
  obtain ⟨hb, F, h1, h2⟩ := h
  have hi' := (List.getElem?_eq_some_iff.1 hi).1
  obtain ⟨ha1, ha2⟩ := h1 i t hi
  have hL : Led T w0 w l := ⟨hb, F, h1, h2⟩
  refine ⟨F i, ⟨Touch.refl _ _, fun _ => F i, ?_, ?_⟩, ha2, ?_, ?_⟩
  · intro j u hj
    cases j with
    | zero => simp at hj; subst hj; exact ⟨ha1, fun k hk => .inl hk⟩
    | succ j => simp at hj
  · intro j k hj hk hjk; simp at hj hk; omega
  · intro W hW j u hji hj
    obtain ⟨hu, _⟩ := h1 j u hj
    have hj' := (List.getElem?_eq_some_iff.1 hj).1
    exact ⟨F j, u.keep hu (fun k hk => hW.block k (u.lt hu k hk) (h2 j i hj' hi' hji k hk))⟩
  · rintro w' t' rest ⟨hT, F', h1', h2'⟩
    have hnewF : ∀ m, m < (t' :: rest).length → ∀ x ∈ F' m, x ∈ F i ∨ w.heap.size ≤ x := fun m hm x hx => (h1' m _ (List.getElem?_eq_getElem hm)).2 x hx
    have hoth : ∀ m, m < l.length → m ≠ i → ∀ x ∈ F m, ∀ p, p < (t' :: rest).length → x ∉ F' p := fun m hm hmi x hx p hp hc => by
      have hlt := l[m].lt (h1 m l[m] (List.getElem?_eq_getElem hm)).1 x hx
      rcases hnewF p hp x hc with h | h
      · exact h2 m i hm hi' hmi x hx h
      · omega
    refine ⟨hb.trans hT ha2, fun m => if m = i then F' 0 else if m < l.length then F m else F' (m - l.length + 1), ?_, ?_⟩
    · intro m u hm
      by_cases hml : m < l.length
      · rw [List.getElem?_append_left (by simpa using hml)] at hm
        by_cases hmi : m = i
        · subst hmi
          rw [List.getElem?_set_self hi'] at hm
          cases hm
          simp only [if_true]
          obtain ⟨a, b⟩ := h1' 0 t' rfl
          exact ⟨a, fun k hk => (b k hk).elim (ha2 k) (fun h => .inr (by omega))⟩
        · rw [List.getElem?_set_ne (fun e => hmi e.symm)] at hm
          simp only [if_neg hmi, if_pos hml]
          obtain ⟨hu, hu2⟩ := h1 m u hm
          exact ⟨u.keep hu (fun k hk => hT.block k (u.lt hu k hk) (h2 m i hml hi' hmi k hk)), hu2⟩
      · rw [List.getElem?_append_right (by simpa using hml)] at hm
        have hmi : m ≠ i := by omega
        simp only [if_neg hmi, if_neg hml]
        obtain ⟨a, b⟩ := h1' (m - l.length + 1) u (by simpa using hm)
        exact ⟨a, fun k hk => (b k hk).elim (ha2 k) (fun h => .inr (by omega))⟩
    · intro m n hm hn hmn x hx hx2
      dsimp only at hx hx2
      simp only [List.length_append, List.length_set] at hm hn
      by_cases hmi : m = i
      · rw [if_pos hmi] at hx
        rw [if_neg (by omega)] at hx2
        by_cases hnl : n < l.length
        · rw [if_pos hnl] at hx2
          exact hoth n hnl (by omega) x hx2 0 (by simp) hx
        · rw [if_neg hnl] at hx2
          exact h2' 0 (n - l.length + 1) (by simp) (by simp; omega) (by omega) x hx hx2
      · rw [if_neg hmi] at hx
        by_cases hni : n = i
        · rw [if_pos hni] at hx2
          by_cases hml : m < l.length
          · rw [if_pos hml] at hx
            exact hoth m hml hmi x hx 0 (by simp) hx2
          · rw [if_neg hml] at hx
            exact h2' 0 (m - l.length + 1) (by simp) (by simp; omega) (by omega) x hx2 hx
        · rw [if_neg hni] at hx2
          by_cases hml : m < l.length
          · rw [if_pos hml] at hx
            by_cases hnl : n < l.length
            · rw [if_pos hnl] at hx2; exact h2 m n hml hnl hmn x hx hx2
            · rw [if_neg hnl] at hx2; exact hoth m hml hmi x hx (n - l.length + 1) (by simp; omega) hx2
          · rw [if_neg hml] at hx
            by_cases hnl : n < l.length
            · rw [if_pos hnl] at hx2; exact hoth n hnl hni x hx2 (m - l.length + 1) (by simp; omega) hx
            · rw [if_neg hnl] at hx2; exact h2' (m - l.length + 1) (n - l.length + 1) (by simp; omega) (by simp; omega) (by omega) x hx hx2

theorem Led.shutP {T : List Nat} {w0 w : World} {g n : Nat} {v : Value} {L : List ME} {vs : List MT} {rest : List Thing} (hn : L.length = n) (h : Led T w0 w (Proofs.Ytihmbgdkllmkaaa.box g 67 #[.bool true, v] :: rowT 27 7 v n (entCells L) :: valsT vs :: rest)) : Led T w0 w [queueT g L, valsT vs] := by
  subst hn
  have h1 : Led T w0 w ([valsT vs] ++ [Proofs.Ytihmbgdkllmkaaa.box g 67 #[.bool true, v], rowT 27 7 v L.length (entCells L)]) := h.sel [2, 0, 1] rfl (by decide)
  exact h1.shutQ.sel [1, 0] rfl (by decide)
set_option maxHeartbeats 4000000 in
theorem Push_q (T : List Nat) (w : World) (g : Nat) (es xs : List ME) (a : Option Addr) (cap : Nat) (h : Led T w w [queueT g es]) (hsrc : ∀ W, Touch T w W → EntsAt W a xs ∧ ∀ x ∈ xs, x.v.In W) (hn : xs.length ≤ 1099511627776) (hes : es.length ≤ 4096) :
    Calls Try.prog 14 #[.pointer (some ⟨g, 0, none⟩), .slice a xs.length cap] w (Pushed T w g es xs) := by
  obtain ⟨qa, qc, hqc1, hqc2, h1⟩ := Led.openQ (l := []) h
  have HL1 := Lib.hid h1.vals0
  simp only [List.nil_append, List.cons_append] at HL1
  have HSRC := Lib.hid hsrc
  clear h h1 hsrc hqc1 hqc2
  obtain ⟨q0, q1, _, _, zq, _, _⟩ := HL1.out.c2 0 rfl
  go_enter Try.func14, Try.ntmps14
  go_wp2
  refine wp_scope_fwd 0 rfl ?_
  go_wp2_with fail
  refine (none_no g w q0).mono ?_
  rintro e w' ⟨rfl, rfl⟩
  go_wp2_with fail
  go_loopw [5, 12] (fun er i wr => ∃ (j : Nat) (ys : List ME) (qa : Option Addr) (qc : Nat), j ≤ xs.length ∧ i = .int .i64 (j : Int) ∧ er = .int .i64 0 ∧ es.length + j ≤ 4096 ∧ (es ++ ys).length = es.length + j ∧ Hid (ys.map ME.plain = (xs.map ME.plain).take j) ∧ Hid (∀ i (h : i < (xs.map ME.plain).length), i < j → (xs.map ME.plain)[i].Ok) ∧
    Hid (Led T w wr [box g 67 #[.bool true, .slice qa (es.length + j) qc], rowT 27 7 (.slice qa (es.length + j) qc) (es.length + j) (entCells (es ++ ys)), valsT (ys.map ME.v)])) (fun _ i _ => xs.length - (intOf i).toNat)
  case atStart => exact ⟨0, [], qa, qc, Nat.zero_le _, rfl, rfl, by omega, by simp, by unfold Hid; simp, by unfold Hid; intro i _ h; omega, by simpa using HL1⟩
  case round =>
    obtain ⟨j, ys, qa, qc, hj, rfl, rfl, hj2, hyl, HY, HO, HK⟩ := hrel
    clear HL1 q0 q1 zq
    have hj0 : (0 : Int) ≤ (j : Int) := by omega
    by_cases hjl : j < xs.length
    · have hjl' : (j : Int) < (xs.length : Int) := by omega
      obtain ⟨b, o, rfl, hb, p0, p1, p2, p3, p4, p5, p6⟩ := (HSRC.out wr HK.out.tch).1 j hjl
      have HI := Lib.hid ((HSRC.out wr HK.out.tch).2 _ (List.getElem_mem hjl))
      have HXJ : Hid ((xs.map ME.plain)[j]? = some xs[j].plain) := by unfold Hid; simp [hjl]
      generalize xs[j] = x at p0 p1 p2 p3 p4 p5 p6 HI HXJ
      go_wp2_with fail
      refine wp_calls_name ?_
      intro w2 hw2
      have HL2 := Lib.hid (HK.out.al1 hw2)
      have HT2 : Hid (Touch [] wr w2) := hw2 ▸ (Touch.refl [] wr).alloc _
      simp only [List.nil_append, List.cons_append] at HL2
      obtain ⟨b7, hb7⟩ : ∃ b, wr.heap.size = b := ⟨_, rfl⟩
      rw [hb7] at HL2 ⊢
      clear hw2 hb7 p0 p1 p2 p3 p4 p5 p6 hb
      refine (valid_q x w2 (HI.out.touch0 HT2.out)).mono ?_
      rintro e w3 ⟨cc, rfl, hcc, ht⟩
      have HL3 := Lib.hid (HL2.out.touch ht)
      have HT3 := Lib.hid (HT2.out.trans' ht)
      have HCC := Lib.hid hcc
      clear hcc ht HL2 HT2
      cases cc with
      | false =>
        go_wp2
        go_step3
        refine ⟨rfl, ?_⟩
        go_wp2
        refine noGoto_ret' ?_
        go_ret
        refine ⟨j, 2, ys, rfl, ⟨HO.out, by omega, by simp; omega, .inr ⟨by simp; omega, .inl ⟨rfl, ?_⟩⟩⟩, HY.out, ?_⟩
        · have h := HXJ.out
          rw [List.getElem?_eq_getElem (by simp; omega)] at h
          injection h with h
          rw [h]
          intro hok
          have := HCC.out.2 hok
          cases this
        · exact HL3.out.shutP hyl
      | true =>
        obtain ⟨q0, q1, fq0, fq1, zq, _, _⟩ := HL3.out.c2 0 rfl
        go_wp2_with fail
        refine (count_q g _ _ _ w3 q1).mono ?_
        rintro e w' ⟨rfl, rfl⟩
        by_cases hfull : es.length + j = 4096
        · have hf1 : (4096 : Int) ≤ ((es.length + j : Nat) : Int) := by omega
          go_wp2
          go_step3
          refine ⟨rfl, ?_⟩
          go_wp2
          refine noGoto_ret' ?_
          go_ret
          refine ⟨j, 6, ys, rfl, ⟨HO.out, by omega, by simp; omega, .inr ⟨by simp; omega, .inr ⟨rfl, ?_, hfull⟩⟩⟩, HY.out, ?_⟩
          · have h := HXJ.out
            rw [List.getElem?_eq_getElem (by simp; omega)] at h
            injection h with h
            rw [h]
            exact HCC.out.1 (by simp)
          · exact HL3.out.shutP hyl
        · have hf1 : ¬ (4096 : Int) ≤ ((es.length + j : Nat) : Int) := by omega
          obtain ⟨i0, hi0, iz0, iz1, iz2⟩ := info_parts info_ent
          have HXN : Hid (x.v.nodes ≤ 256) := by
            have h1 := (HCC.out.1 (by simp)).nodes
            simp only [ME.plain, MT.plain_nodes] at h1
            exact h1
          have HXI := Lib.hid (HI.out.touch0 HT3.out)
          obtain ⟨x0, x1, x2, x3, x4, x5, x6, _, zx, _, _⟩ := HL3.out.c7 3 rfl
          go_wp2_with fail
          go_region_law (first
            | (refine step_append_S _ rfl (.tmp 29) (.tmp 32) 32 rfl 27 i0 _ 7 72 Try.underlying32 hi0 iz0 iz1 iz2 rfl (by decide) (.slice qa (es.length + j) qc) (es.length + j) (entCells (es ++ ys)) (by simp [Act.eval]) ((HL4.out.alloc_ _).rowSAt 1 rfl) (some ⟨w4.heap.size, 0, none⟩) 1 1 x'.cells (by simp [Act.eval]) rfl (.inr ⟨_, rfl, World.news_of_block (heap_alloc_new w4 _)⟩) (by have := ents_one [x']; simpa [entCells] using this) (by simp only [maxLen]; omega) (by omega) ?_; intro a5 c5 w5 hown hgrow hat; have HL5 := Lib.hid ((HL4.out.alloc_ _).grownS 1 rfl hgrow hown hat); simp only [List.set_cons_succ, List.set_cons_zero] at HL5; clear hown hgrow hat q0 q1 fq0 fq1 zq; obtain ⟨q0, q1, fq0, fq1, zq, _, _⟩ := HL5.out.c2 0 rfl)
            | (go_simp; refine (copyEntry_q x w3.drew (HXI.out.touch0 (Touch.refl [] w3).drew) HXN.out).mono ?_; rintro e w4 ⟨x', rfl, hpl, hin, hnew, ht⟩; have HL4 := Lib.hid (HL3.out.drew.valsNew (vs := [x'.v]) ht (by simpa using hin) (by simpa using hnew)); simp only [List.nil_append, List.cons_append] at HL4; have HPL := Lib.hid hpl; clear hpl hin hnew ht q0 q1 fq0 fq1 zq x0 x1 x2 x3 x4 x5 x6 zx; obtain ⟨q0, q1, fq0, fq1, zq, _, _⟩ := HL4.out.c2 0 rfl; simp only [ent_eq]))
          all_goals
            have HL6 : Hid (Led T w (w5.setCell ⟨g, 1, none⟩ (.slice a5 (es.length + j + 1) c5)) [box g 67 #[.bool true, .slice a5 (es.length + (j + 1)) c5], rowT 27 7 (.slice a5 (es.length + (j + 1)) c5) (es.length + (j + 1)) (entCells (es ++ (ys ++ [x']))), valsT ((ys ++ [x']).map ME.v)]) := by
              have h := HL5.out.set 0 rfl 1 (.slice a5 (es.length + j + 1) c5)
              simp only [List.set_cons_succ, List.set_cons_zero, List.setIfInBounds_toArray] at h
              have h2 := Led.valsJoin (l := [_, _]) (h.sel [0, 1, 2, 4] rfl (by decide))
              rw [← List.append_assoc, entCells_append, List.map_append]
              exact h2
            have HY6 : Hid ((ys ++ [x']).map ME.plain = (xs.map ME.plain).take (j + 1)) := by
              unfold Hid
              rw [List.take_add_one, HXJ.out, List.map_append, HY.out, ← HPL.out]
              rfl
            have HO6 : Hid (∀ i (h : i < (xs.map ME.plain).length), i < j + 1 → (xs.map ME.plain)[i].Ok) := by
              unfold Hid
              intro i h hi
              by_cases hij : i < j
              · exact HO.out i h hij
              · obtain rfl : i = j := by omega
                have h2 := HXJ.out
                rw [List.getElem?_eq_getElem h] at h2
                injection h2 with h2
                rw [h2]
                exact HCC.out.1 (by simp)
            have hyl6 : (es ++ (ys ++ [x'])).length = es.length + (j + 1) := by simp at hyl ⊢; omega
            clear HL5 HL4 HL3 q0 q1 fq0 fq1 zq
            go_wp2
            go_roundw
            case rel => exact ⟨j + 1, ys ++ [x'], a5, c5, by omega, by go_num, rfl, by omega, hyl6, HY6, HO6, HL6⟩
            case measure => simp [intOf]; omega
    · have hjl' : ¬ (j : Int) < (xs.length : Int) := by omega
      obtain rfl : j = xs.length := by omega
      go_wp2
      go_step3
      go_wp2
      refine jump_ret ?_
      go_ret
      refine ⟨xs.length, 0, ys, rfl, ⟨HO.out, by omega, by simp, .inl ⟨rfl, by simp⟩⟩, HY.out, ?_⟩
      exact HK.out.shutP hyl
end Go.Proofs.Ytihmbgdkllmkaaa
