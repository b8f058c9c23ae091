/-
  Layer 15 (cond.go): Wait, Next, and all calls in a caller's ledger.
-/
import Derived.Test.YtihmbgdkllmkaaaCond1
namespace Go.Proofs.Ytihmbgdkllmkaaa
open Go.RowKit Go.Shelf
set_option maxRecDepth 100000
set_option linter.unusedVariables false
set_option linter.unusedSimpArgs false

/-- What Next tells and leaves. -/
def Nexted (T : List Nat) (w0 : World) (l : List Thing) (i q : Nat) (es : List ME) (e : Ending) (w' : World) : Prop :=
  (∃ x r, es = x :: r ∧ e = .returned (.tuple #[x.val, .bool true]) ∧ Led T w0 w' (l.set i (queueT q r))) ∨ (es = [] ∧ e = .returned (.tuple #[ME.zero.val, .bool false]) ∧ Led T w0 w' (l.set i (queueT q [])))
section
variable {T : List Nat} {w0 w : World} {l : List Thing} {g c q : Nat} {a f : Int} {s : Ar} {es : List ME}
theorem set_end1 {t : Thing} {m : List Thing} {i : Nat} (hi : i < l.length) : (l ++ m).set i t = l.set i t ++ m := List.set_append_left i t hi
theorem get_end2 {t1 t2 : Thing} : (l ++ [t1] ++ [t2])[l.length + 1]? = some t2 := by simp
theorem get_end1 {t1 : Thing} : (l ++ [t1])[l.length]? = some t1 := by simp
theorem Led.cLock (h : Led T w0 w l) (i j : Nat) (hi : l[i]? = some (arena g s)) (hj : l[j]? = some (Proofs.Ytihmbgdkllmkaaa.box c 90 #[.int .i64 a, .int .i64 f, .pointer (some ⟨q, 0, none⟩)])) (hn : s.L.length < 4611686018427387904) :
    Calls Try.prog 44 #[.pointer (some ⟨c, 0, none⟩), .pointer (some ⟨g, 0, none⟩)] w fun e w' => e = .returned (.tuple #[.bool (s.swap a 0 1).2.1.did, .int .i64 ((s.swap a 0 1).2.2 : Int)]) ∧ Led T w0 w' (l.set i (arena g (s.swap a 0 1).1)) :=
  Lock_c w c a f q (h.condAt j hj) _ (fun w' => Led T w0 w' (l.set i (arena g (s.swap a 0 1).1))) _ _ (fun W hW => (h.touch hW).ar i hi (fun fp hI => Try_any W g fp s hI a hn))
theorem Led.cUnlock (h : Led T w0 w l) (i j : Nat) (hi : l[i]? = some (arena g s)) (hj : l[j]? = some (Proofs.Ytihmbgdkllmkaaa.box c 90 #[.int .i64 a, .int .i64 f, .pointer (some ⟨q, 0, none⟩)])) (hn : s.L.length < 4611686018427387904) :
    Calls Try.prog 46 #[.pointer (some ⟨c, 0, none⟩), .pointer (some ⟨g, 0, none⟩)] w fun e w' => e = .returned (.int .i64 (s.freeE a : Int)) ∧ Led T w0 w' (l.set i (arena g (s.swap a 1 0).1)) :=
  Unlock_c w c a f q (h.condAt j hj) _ (fun w' => Led T w0 w' (l.set i (arena g (s.swap a 1 0).1))) _ (fun W hW => (h.touch hW).ar i hi (fun fp hI => Free_any W g fp s hI a hn))
theorem Led.cFired (h : Led T w0 w l) (i j : Nat) (hi : l[i]? = some (arena g s)) (hj : l[j]? = some (Proofs.Ytihmbgdkllmkaaa.box c 90 #[.int .i64 a, .int .i64 f, .pointer (some ⟨q, 0, none⟩)])) (hn : s.L.length < 4611686018427387904) {d : Bool} {er : Nat} {s' : Ar} (hd : d = (decide ((s.load f).2.2 = 0) && decide ((s.load f).2.1.old ≠ 0))) (he : (s.load f).2.2 = er) (hs : (s.load f).1 = s') :
    Calls Try.prog 41 #[.pointer (some ⟨c, 0, none⟩), .pointer (some ⟨g, 0, none⟩)] w fun e w' => e = .returned (.tuple #[.bool d, .int .i64 (er : Int)]) ∧ Led T w0 w' (l.set i (arena g s')) := by
  subst he hs
  exact Fired_c w c a f q (h.condAt j hj) _ (fun w' => Led T w0 w' (l.set i (arena g (s.load f).1))) _ _ _ hd (fun W hW => (h.touch hW).ar i hi (fun fp hI => Load_any W g fp s f hI hn))
theorem Led.cFire (h : Led T w0 w l) (i j : Nat) (hi : l[i]? = some (arena g s)) (hj : l[j]? = some (Proofs.Ytihmbgdkllmkaaa.box c 90 #[.int .i64 a, .int .i64 f, .pointer (some ⟨q, 0, none⟩)])) (hn : s.L.length < 4611686018427387904) {fe : Nat} {s' : Ar} (hfe : fe = if (s.swap f 0 1).2.2 = 0 ∧ (s.swap f 0 1).2.1.did = false then 150 else (s.swap f 0 1).2.2) (hs : (s.swap f 0 1).1 = s') :
    Calls Try.prog 37 #[.pointer (some ⟨c, 0, none⟩), .pointer (some ⟨g, 0, none⟩)] w fun e w' => e = .returned (.int .i64 (fe : Int)) ∧ Led T w0 w' (l.set i (arena g s')) := by
  subst hs
  exact Fire_c w c a f q (h.condAt j hj) _ (fun w' => Led T w0 w' (l.set i (arena g (s.swap f 0 1).1))) _ _ _ _ hfe (fun W hW => (h.touch hW).ar i hi (fun fp hI => Swap_any W g fp s f hI hn 0 1 wd0 wd1))
theorem Led.cLen (h : Led T w0 w l) (i j : Nat) (hi : l[i]? = some (queueT q es)) (hj : l[j]? = some (Proofs.Ytihmbgdkllmkaaa.box c 90 #[.int .i64 a, .int .i64 f, .pointer (some ⟨q, 0, none⟩)])) :
    Calls Try.prog 42 #[.pointer (some ⟨c, 0, none⟩)] w fun e w' => e = .returned (.int .i64 (es.length : Int)) ∧ w = w' := Len_c w c a f q (h.condAt j hj) es (h.qAt i hi)
set_option maxHeartbeats 1000000 in
theorem Led.cWait {vs : List MT} (x : ME) (h : Led T w0 w l) (i k j : Nat) (hi : l[i]? = some (queueT q es)) (hk : l[k]? = some (valsT vs)) (hik : i ≠ k) (hji : j ≠ i) (hjk : j ≠ k) (hj : l[j]? = some (Proofs.Ytihmbgdkllmkaaa.box c 90 #[.int .i64 a, .int .i64 f, .pointer (some ⟨q, 0, none⟩)])) (hx : ∀ W, Beside l i W → Touch T w0 W → x.v.In W) (hes : es.length ≤ 4096) :
    Calls Try.prog 38 #[.pointer (some ⟨c, 0, none⟩), x.val] w fun e w' => ∃ n err ys, e = .returned (.int .i64 err) ∧ PushR es.length [x.plain] n err ∧ ys.map ME.plain = [x.plain].take n ∧ Led T w0 w' ((l.set i (queueT q (es ++ ys))).set k (valsT (vs ++ ys.map ME.v))) := by
  have hil := (List.getElem?_eq_some_iff.1 hi).1
  have hkl := (List.getElem?_eq_some_iff.1 hk).1
  have h1 := h.alloc 27 #[.int .i64 x.sync, .int .i64 x.thread, .int .i64 x.branch, .int .i64 x.flag, .int .i64 x.v.kind, .int .i64 x.v.num, .slice x.v.addr x.v.parts.length x.v.cap]
  have h2 := (h1.alloc 27 #[.int .i64 x.sync, .int .i64 x.thread, .int .i64 x.branch, .int .i64 x.flag, .int .i64 x.v.kind, .int .i64 x.v.num, .slice x.v.addr x.v.parts.length x.v.cap]).drew
  have hz : (w.alloc (.cells #[.int .i64 x.sync, .int .i64 x.thread, .int .i64 x.branch, .int .i64 x.flag, .int .i64 x.v.kind, .int .i64 x.v.num, .slice x.v.addr x.v.parts.length x.v.cap] 27)).heap.size = w.heap.size + 1 := by simp
  rw [hz] at h2
  have hlt : ∀ {t : Thing} {n : Nat} {m m' : List Thing}, l[n]? = some t → (l ++ m ++ m')[n]? = some t := fun {t n m m'} hn => by
    have := (List.getElem?_eq_some_iff.1 hn).1
    rw [List.getElem?_append_left (by simp; omega), List.getElem?_append_left this]; exact hn
  have HP := Lib.hid (h2.qPush2 (xs := [x]) (cap := 1) i k (hlt hi) (hlt hk) hik (fun W hW ht => ⟨ents_box rfl (hW (l.length + 1) _ (by omega) get_end2), fun y hy => by
    simp at hy; subst hy
    exact hx W (fun j' u hj' hu => hW j' u hj' (hlt hu)) ht⟩) (by simp) hes)
  obtain ⟨x0, x1, x2, x3, x4, x5, x6, _, z1, _, _⟩ := h1.c7 l.length get_end1
  obtain ⟨d0, d1, d2, hl, hl2⟩ := (h1.condAt j (by rw [List.getElem?_append_left (List.getElem?_eq_some_iff.1 hj).1]; exact hj)).cells
  have HC := Lib.hid (h1.condAt j (by rw [List.getElem?_append_left (List.getElem?_eq_some_iff.1 hj).1]; exact hj))
  have HEND : Hid (∀ w' ys, Led T w0 w' (((l ++ [Proofs.Ytihmbgdkllmkaaa.box w.heap.size 27 #[.int .i64 x.sync, .int .i64 x.thread, .int .i64 x.branch, .int .i64 x.flag, .int .i64 x.v.kind, .int .i64 x.v.num, .slice x.v.addr x.v.parts.length x.v.cap]] ++ [Proofs.Ytihmbgdkllmkaaa.box (w.heap.size + 1) 27 #[.int .i64 x.sync, .int .i64 x.thread, .int .i64 x.branch, .int .i64 x.flag, .int .i64 x.v.kind, .int .i64 x.v.num, .slice x.v.addr x.v.parts.length x.v.cap]]).set i (queueT q (es ++ ys))).set k (valsT (vs ++ ys.map ME.v))) → Led T w0 w' ((l.set i (queueT q (es ++ ys))).set k (valsT (vs ++ ys.map ME.v)))) := fun w' ys hL => by
    rw [List.append_assoc, List.set_append_left _ _ hil, List.set_append_left _ _ (by simpa using hkl)] at hL
    exact hL.sub_end
  have HK : Hid (∀ w' ys, Led T w0 w' (((l ++ [Proofs.Ytihmbgdkllmkaaa.box w.heap.size 27 #[.int .i64 x.sync, .int .i64 x.thread, .int .i64 x.branch, .int .i64 x.flag, .int .i64 x.v.kind, .int .i64 x.v.num, .slice x.v.addr x.v.parts.length x.v.cap]] ++ [Proofs.Ytihmbgdkllmkaaa.box (w.heap.size + 1) 27 #[.int .i64 x.sync, .int .i64 x.thread, .int .i64 x.branch, .int .i64 x.flag, .int .i64 x.v.kind, .int .i64 x.v.num, .slice x.v.addr x.v.parts.length x.v.cap]]).set i (queueT q (es ++ ys))).set k (valsT (vs ++ ys.map ME.v))) → EntAt w' w.heap.size 0 x ∧ CondAt w' c a f q) := fun w' ys hL => by
    obtain ⟨c0, c1, c2, c3, c4, c5, c6, _⟩ := hL.c7 l.length (by rw [List.getElem?_set_ne (by omega), List.getElem?_set_ne (by omega), List.append_assoc, List.getElem?_append_right (Nat.le_refl _), Nat.sub_self]; rfl)
    exact ⟨⟨c0, c1, c2, c3, c4, c5, c6⟩, hL.condAt j (by rw [List.getElem?_set_ne (Ne.symm hjk), List.getElem?_set_ne (Ne.symm hji)]; exact hlt hj)⟩
  simp only [ent_eq] at ⊢
  clear h h1 h2 hi hk hj hx hlt hil hkl hz
  go_enter Try.func38, Try.ntmps38
  go_wp2_with fail
  refine (cnone_no _ _ _ _ _ HC.out).mono ?_
  rintro e w' ⟨rfl, rfl⟩
  go_wp2_with fail
  go_region_held3 (fun w' => w'.cell? ⟨c, 2, none⟩ = some (.pointer (some ⟨q, 0, none⟩)) ∧ w'.cell? ⟨w.heap.size, 0, none⟩ = some (.int .i64 x.sync) ∧ w'.cell? ⟨w.heap.size, 1, none⟩ = some (.int .i64 x.thread) ∧ w'.cell? ⟨w.heap.size, 2, none⟩ = some (.int .i64 x.branch) ∧ w'.cell? ⟨w.heap.size, 3, none⟩ = some (.int .i64 x.flag) ∧ w'.cell? ⟨w.heap.size, 4, none⟩ = some (.int .i64 x.v.kind) ∧ w'.cell? ⟨w.heap.size, 5, none⟩ = some (.int .i64 x.v.num) ∧ w'.cell? ⟨w.heap.size, 6, none⟩ = some (.slice x.v.addr x.v.parts.length x.v.cap)) (go_keep)
    ((go_at_call 14; refine HP.out.mono ?_; rintro en wn ⟨n, err, ys, rfl, hR, hp, hL⟩; have HF := Lib.hid (And.intro hR (And.intro hp (HEND.out _ _ hL))); clear x0 x1 x2 x3 x4 x5 x6 d0 d1 d2; (obtain ⟨⟨x0, x1, x2, x3, x4, x5, x6⟩, hcq⟩ := HK.out _ _ hL; obtain ⟨d0, d1, d2, _, _⟩ := hcq.cells; simp only [Nat.zero_add] at x1 x2 x3 x4 x5 x6); clear hR hp hL hcq))
  go_wp2
  go_ret
  exact ⟨n, err, ys, rfl, HF.out.1, HF.out.2.1, HF.out.2.2⟩
set_option maxHeartbeats 1000000 in
theorem Led.cNext (h : Led T w0 w l) (i j : Nat) (hi : l[i]? = some (queueT q es)) (hj : l[j]? = some (Proofs.Ytihmbgdkllmkaaa.box c 90 #[.int .i64 a, .int .i64 f, .pointer (some ⟨q, 0, none⟩)])) (hes : es.length ≤ 1048576) :
    Calls Try.prog 40 #[.pointer (some ⟨c, 0, none⟩)] w (Nexted T w0 l i q es) := by
  obtain ⟨d0, d1, d2, hl, hl2⟩ := (h.condAt j hj).cells
  have hil := (List.getElem?_eq_some_iff.1 hi).1
  have HC := Lib.hid ((h.condAt j hj).touch ((Touch.refl [] w).alloc (.cells #[.int .i64 0, .int .i64 0, .int .i64 0, .int .i64 0, .int .i64 0, .int .i64 0, .slice none 0 0] 27)))
  have h1 := h.alloc 27 #[.int .i64 0, .int .i64 0, .int .i64 0, .int .i64 0, .int .i64 0, .int .i64 0, .slice none 0 0]
  have HP := Lib.hid (h1.qDrop i (by rw [List.getElem?_append_left hil]; exact hi) 0 hes)
  have HI := Lib.hid hil
  clear h h1 hi hj hil
  go_enter Try.func40, Try.ntmps40
  go_wp2_with fail
  refine (cnone_no _ _ _ _ _ HC.out).mono ?_
  rintro e w' ⟨rfl, rfl⟩
  go_wp2_with fail
  refine HP.out.mono ?_
  rintro e w2 (⟨x, _, hx, rfl, hL⟩ | ⟨hn, rfl, hL⟩)
  · obtain ⟨r, rfl⟩ : ∃ r, es = x :: r := by
      cases es with
      | nil => simp at hx
      | cons y r => simp at hx; exact ⟨r, by rw [hx]⟩
    rw [List.set_append_left _ _ HI.out] at hL
    have HL := Lib.hid hL
    clear hL hx HC HP
    simp only [ent_eq]
    obtain ⟨x0, x1, x2, x3, x4, x5, x6, ⟨f0, f1, f2, f3, f4, f5, f6⟩, z1, _, _⟩ := HL.out.c7 (l.set i (queueT q ((x :: r).eraseIdx (Int.toNat 0)))).length get_end1
    go_wp2
    have HL7 := Lib.hid (HL.out.setEnt (l.set i (queueT q ((x :: r).eraseIdx (Int.toNat 0)))).length get_end1 x.sync x.thread x.branch x.flag x.v.kind x.v.num (.slice x.v.addr x.v.parts.length x.v.cap))
    obtain ⟨s0, s1, s2, s3, s4, s5, s6, _⟩ := HL7.out.c7 (l.set i (queueT q ((x :: r).eraseIdx (Int.toNat 0)))).length (List.getElem?_set_self (by simp))
    refine bodyPost_ret (v := .tuple #[x.val, .bool true]) (by simp [results, Try.results40, go_sem, s0, s1, s2, s3, s4, s5, s6, ent_eq]) rfl ?_
    refine .inl ⟨x, r, rfl, rfl, ?_⟩
    have h := HL7.out
    rw [List.set_append_right _ _ (Nat.le_refl _)] at h
    exact h.sub_end
  · obtain rfl : es = [] := by
      cases es with
      | nil => rfl
      | cons y r => exact absurd ⟨by decide, by simp⟩ hn
    rw [List.set_append_left _ _ HI.out] at hL
    have HL := Lib.hid hL
    clear hL hn HC HP
    have hzv : ME.zero.val = .agg #[.int .i64 0, .int .i64 0, .int .i64 0, .int .i64 0, .int .i64 0, .int .i64 0, .slice none 0 0] := rfl
    rw [hzv]
    obtain ⟨x0, x1, x2, x3, x4, x5, x6, ⟨f0, f1, f2, f3, f4, f5, f6⟩, z1, _, _⟩ := HL.out.c7 (l.set i (queueT q [])).length get_end1
    go_wp2
    have HL7 := Lib.hid (HL.out.setEnt (l.set i (queueT q [])).length get_end1 0 0 0 0 0 0 (.slice none 0 0))
    obtain ⟨s0, s1, s2, s3, s4, s5, s6, _⟩ := HL7.out.c7 (l.set i (queueT q [])).length (List.getElem?_set_self (by simp))
    refine bodyPost_ret (v := .tuple #[.agg #[.int .i64 0, .int .i64 0, .int .i64 0, .int .i64 0, .int .i64 0, .int .i64 0, .slice none 0 0], .bool false]) (by simp [results, Try.results40, go_sem, s0, s1, s2, s3, s4, s5, s6]) rfl ?_
    refine .inr ⟨rfl, rfl, ?_⟩
    have h := HL7.out
    rw [List.set_append_right _ _ (Nat.le_refl _)] at h
    exact h.sub_end
end
end Go.Proofs.Ytihmbgdkllmkaaa
