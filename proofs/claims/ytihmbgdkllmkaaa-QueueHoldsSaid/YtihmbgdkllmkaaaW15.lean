/-
  The law's works() of layer 15 (betrothallaw15/law.go): it returns true, and nothing that was there has turned.
-/
import Derived.Test.YtihmbgdkllmkaaaCond2
namespace Go.Proofs.Ytihmbgdkllmkaaa
open Go.RowKit Go.Shelf
set_option maxRecDepth 100000
set_option linter.unusedVariables false
set_option linter.unusedSimpArgs false
attribute [local go_sem] Oper.semAt_some

theorem one_of {ys : List ME} {a : PE} (h : ys.map ME.plain = [a]) : ∃ y, ys = [y] ∧ y.plain = a := by
  match ys, h with
  | [y], h => simp at h; exact ⟨y, rfl, h⟩
theorem num15 (n : Int) (w : World) : Calls Try.prog 36 #[.int .i64 n] w fun e w' => e = .returned (.int .i64 n) ∧ w = w' := by
  go_enter Try.func36, Try.ntmps36
  go_wp2
  go_ret
  exact ⟨rfl, rfl⟩
/-- An arena of two cells. -/
def twoC (m a b : Nat) (L : List Acc) : Ar := ⟨[a, b], m, L⟩
section
variable {T : List Nat} {w0 w : World} {l : List Thing} {g c q m a b : Nat} {L : List Acc}
theorem Led.fired2 (h : Led T w0 w l) (i j : Nat) (hi : l[i]? = some (arena g (twoC m a b L))) (hj : l[j]? = some (Proofs.Ytihmbgdkllmkaaa.box c 90 #[.int .i64 0, .int .i64 1, .pointer (some ⟨q, 0, none⟩)])) (n : Nat) (hn : L.length ≤ n) (hn' : n < 1000000) :
    Calls Try.prog 41 #[.pointer (some ⟨c, 0, none⟩), .pointer (some ⟨g, 0, none⟩)] w fun e w' => ∃ L', e = .returned (.tuple #[.bool (decide (b ≠ 0)), .int .i64 0]) ∧ L'.length ≤ n + 1 ∧ Led T w0 w' (l.set i (arena g (twoC m a b L'))) := by
  refine (h.cFired i j hi hj (show L.length < _ by omega) (d := decide (b ≠ 0)) (er := 0) (s' := twoC m a b (L ++ [⟨1, 1, b, b, true⟩])) (by simp [Ar.load, Ar.doBy, twoC, chgLoad, Ar.acc]) rfl rfl).mono ?_
  rintro e w' ⟨rfl, hL⟩
  exact ⟨_, rfl, by simp; omega, hL⟩
theorem Led.fire2 (h : Led T w0 w l) (i j : Nat) (hi : l[i]? = some (arena g (twoC m a b L))) (hj : l[j]? = some (Proofs.Ytihmbgdkllmkaaa.box c 90 #[.int .i64 0, .int .i64 1, .pointer (some ⟨q, 0, none⟩)])) (n : Nat) (hn : L.length ≤ n) (hn' : n < 1000000) (hb : b ≤ 1) :
    Calls Try.prog 37 #[.pointer (some ⟨c, 0, none⟩), .pointer (some ⟨g, 0, none⟩)] w fun e w' => ∃ L', e = .returned (.int .i64 (150 * b : Int)) ∧ L'.length ≤ n + 1 ∧ Led T w0 w' (l.set i (arena g (twoC m a 1 L'))) := by
  obtain rfl | rfl : b = 0 ∨ b = 1 := by omega
  · refine (h.cFire i j hi hj (show L.length < _ by omega) (fe := 0) (s' := twoC m a 1 (L ++ [⟨3, 1, 0, 1, true⟩])) rfl rfl).mono ?_
    rintro e w' ⟨rfl, hL⟩
    exact ⟨_, rfl, by simp; omega, hL⟩
  · refine (h.cFire i j hi hj (show L.length < _ by omega) (fe := 150) (s' := twoC m a 1 (L ++ [⟨3, 1, 1, 1, false⟩])) rfl rfl).mono ?_
    rintro e w' ⟨rfl, hL⟩
    exact ⟨_, rfl, by simp; omega, hL⟩
theorem Led.lock2 (h : Led T w0 w l) (i j : Nat) (hi : l[i]? = some (arena g (twoC m a b L))) (hj : l[j]? = some (Proofs.Ytihmbgdkllmkaaa.box c 90 #[.int .i64 0, .int .i64 1, .pointer (some ⟨q, 0, none⟩)])) (n : Nat) (hn : L.length ≤ n) (hn' : n < 1000000) (ha : a ≤ 1) :
    Calls Try.prog 44 #[.pointer (some ⟨c, 0, none⟩), .pointer (some ⟨g, 0, none⟩)] w fun e w' => ∃ L', e = .returned (.tuple #[.bool (decide (a = 0)), .int .i64 0]) ∧ L'.length ≤ n + 1 ∧ Led T w0 w' (l.set i (arena g (twoC m 1 b L'))) := by
  obtain rfl | rfl : a = 0 ∨ a = 1 := by omega
  · refine (h.cLock i j hi hj (show L.length < _ by omega)).mono ?_
    rintro e w' ⟨rfl, hL⟩
    exact ⟨_, rfl, by simp; omega, (show Led T w0 w' (l.set i (arena g (twoC m 1 b (L ++ [⟨3, 0, 0, 1, true⟩])))) from hL)⟩
  · refine (h.cLock i j hi hj (show L.length < _ by omega)).mono ?_
    rintro e w' ⟨rfl, hL⟩
    exact ⟨_, rfl, by simp; omega, (show Led T w0 w' (l.set i (arena g (twoC m 1 b (L ++ [⟨3, 0, 1, 1, false⟩])))) from hL)⟩
theorem Led.unlock2 (h : Led T w0 w l) (i j : Nat) (hi : l[i]? = some (arena g (twoC m a b L))) (hj : l[j]? = some (Proofs.Ytihmbgdkllmkaaa.box c 90 #[.int .i64 0, .int .i64 1, .pointer (some ⟨q, 0, none⟩)])) (n : Nat) (hn : L.length ≤ n) (hn' : n < 1000000) (ha : a ≤ 1) :
    Calls Try.prog 46 #[.pointer (some ⟨c, 0, none⟩), .pointer (some ⟨g, 0, none⟩)] w fun e w' => ∃ L', e = .returned (.int .i64 (30 - 30 * a : Int)) ∧ L'.length ≤ n + 1 ∧ Led T w0 w' (l.set i (arena g (twoC m 0 b L'))) := by
  obtain rfl | rfl : a = 0 ∨ a = 1 := by omega
  · refine (h.cUnlock i j hi hj (show L.length < _ by omega)).mono ?_
    rintro e w' ⟨rfl, hL⟩
    exact ⟨_, rfl, by simp; omega, (show Led T w0 w' (l.set i (arena g (twoC m 0 b (L ++ [⟨3, 0, 0, 0, false⟩])))) from hL)⟩
  · refine (h.cUnlock i j hi hj (show L.length < _ by omega)).mono ?_
    rintro e w' ⟨rfl, hL⟩
    exact ⟨_, rfl, by simp; omega, (show Led T w0 w' (l.set i (arena g (twoC m 0 b (L ++ [⟨3, 0, 1, 0, true⟩])))) from hL)⟩
/-- An arena of m cells and a condition on its first two. -/
theorem Led.new2 (h : Led T w0 w l) (hm : 2 ≤ m) (i : Nat) (hi : l[i]? = some (arena g (Ar.fresh m))) :
    Calls Try.prog 35 #[.pointer (some ⟨g, 0, none⟩)] w fun e w' => ∃ q c, e = .returned (.tuple #[.pointer (some ⟨c, 0, none⟩), .int .i64 0]) ∧ Led T w0 w' (l.set i (arena g (twoC m 0 0 [])) ++ [queueT q [], valsT [], Proofs.Ytihmbgdkllmkaaa.box c 90 #[.int .i64 0, .int .i64 1, .pointer (some ⟨q, 0, none⟩)]]) := by
  refine (h.cNew i hi (by simpa [Ar.fresh] using hm)).mono ?_
  rintro e w' ⟨q, c, rfl, hL⟩
  refine ⟨q, c, rfl, ?_⟩
  have e1 : ((Ar.fresh m).allocA 2).1 = twoC m 0 0 [] := by unfold Ar.allocA; rw [if_neg (by decide), if_neg (by simp [Ar.fresh]; omega)]; rfl
  rw [e1] at hL
  exact hL
theorem Led.full2 (h : Led T w0 w l) (hm : m < 4) (i : Nat) (hi : l[i]? = some (arena g (twoC m a b L))) :
    Calls Try.prog 35 #[.pointer (some ⟨g, 0, none⟩)] w fun e w' => e = .returned (.tuple #[.pointer none, .int .i64 6]) ∧ Led T w0 w' (l.set i (arena g (twoC m a b L))) := by
  have e1 : ((twoC m a b L).allocA 2).1 = twoC m a b L := by unfold Ar.allocA; rw [if_neg (by decide), if_pos (by simp [twoC]; omega)]
  have := h.cNew_full i hi (by simp [twoC]; omega)
  rw [e1] at this
  exact this
end
theorem build_sync (s : Int) (w : World) : (Instr.build 27 #[(0, .int .i64 s)]).run Try.prog w = .ok (ofE s 0).val w := run_build w 27 _ _ (by kernel_rfl)
attribute [local go_sem] build_sync
theorem sync15 (s : Int) (w : World) : Calls Try.prog 39 #[.int .i64 s] w fun e w' => e = .returned (ofE s 0).val ∧ Touch [] w w' := by
  have HT := Lib.hid ((Touch.refl [] w).alloc (.cells #[.int .i64 s, .int .i64 0, .int .i64 0, .int .i64 0, .int .i64 0, .int .i64 0, .slice none 0 0] 27))
  go_enter Try.func39, Try.ntmps39
  go_wp2
  refine bodyPost_ret (v := .agg #[.int .i64 s, .int .i64 0, .int .i64 0, .int .i64 0, .int .i64 0, .int .i64 0, .slice none 0 0]) (by simp [results, Try.results39, go_sem]) rfl ⟨rfl, HT.out⟩
theorem Led.wait2 {T : List Nat} {w0 w : World} {l : List Thing} {c q : Nat} {a f : Int} {es : List ME} {vs : List MT} (s : Int) (hs : 0 ≤ s) (h : Led T w0 w l) (i k j : Nat) (hi : l[i]? = some (queueT q es)) (hk : l[k]? = some (valsT vs)) (hik : i ≠ k) (hji : j ≠ i) (hjk : j ≠ k) (hj : l[j]? = some (Proofs.Ytihmbgdkllmkaaa.box c 90 #[.int .i64 a, .int .i64 f, .pointer (some ⟨q, 0, none⟩)])) (hes : es.length < 4096) :
    Calls Try.prog 38 #[.pointer (some ⟨c, 0, none⟩), (ofE s 0).val] w fun e w' => ∃ y, e = .returned (.int .i64 0) ∧ y.plain = pOf s 0 ∧ Led T w0 w' ((l.set i (queueT q (es ++ [y]))).set k (valsT (vs ++ [y.v]))) := by
  refine (h.cWait (ofE s 0) i k j hi hk hik hji hjk hj (fun W _ _ => MT.in_zero W) (by omega)).mono ?_
  rintro e w' ⟨n, err, ys, rfl, hR, hp, hL⟩
  obtain ⟨rfl, rfl⟩ := hR.all (fun p hp => by simp at hp; rw [hp]; exact pOf_ok hs (Int.le_refl 0)) (by simp; omega)
  obtain ⟨y, rfl, hy⟩ := one_of (a := pOf s 0) hp
  exact ⟨y, rfl, hy, hL⟩
theorem zero_val : ME.zero.val = .agg #[.int .i64 0, .int .i64 0, .int .i64 0, .int .i64 0, .int .i64 0, .int .i64 0, .slice none 0 0] := rfl
set_option maxHeartbeats 4000000 in
theorem works15 (w : World) : Calls Try.prog 33 #[] w fun e w' => e = .returned (.bool true) ∧ Touch [] w w' := by
  go_enter Try.func33, Try.ntmps33
  go_wp2_with fail
  refine ((Led.nil' w).arNew 3 (by omega) (by omega)).mono ?_
  rintro e w1 ⟨rfl, hh⟩
  have HL1 := Lib.hid hh
  simp only [List.nil_append] at HL1
  obtain ⟨g, hg⟩ : ∃ b, w.heap.size = b := ⟨_, rfl⟩
  rw [hg] at HL1 ⊢
  clear hh hg
  go_wp2_with fail
  refine (HL1.out.new2 (by omega) 0 rfl).mono ?_
  rintro e w2 ⟨q, c, rfl, hL⟩
  have HL := Lib.hid hL
  simp only [List.set_cons_zero, List.cons_append, List.nil_append] at HL
  clear hL HL1
  go_wp2_with fail
  refine (Cells_c _ _ _ _ _ (HL.out.condAt 3 rfl)).mono ?_
  rintro e w3 ⟨rfl, ht⟩
  have HL3 := Lib.hid (HL.out.touch ht)
  clear ht HL
  have HL := Lib.hid HL3.out
  clear HL3
  have hl3 : ([] : List Acc).length ≤ 0 := Nat.le_refl 0
  go_wp2_with fail
  refine (HL.out.fired2 0 3 rfl rfl 0 hl3 (by decide)).mono ?_
  rintro e w4 ⟨L4, rfl, hl4, hL⟩
  have HLN := Lib.hid hL
  simp only [List.set_cons_zero, List.set_cons_succ] at HLN
  clear hL HL
  have HL := Lib.hid HLN.out
  clear HLN
  go_wp2_with fail
  refine (HL.out.fire2 0 3 rfl rfl 1 hl4 (by decide) (by decide)).mono ?_
  rintro e w5 ⟨L5, rfl, hl5, hL⟩
  have HLN := Lib.hid hL
  simp only [List.set_cons_zero, List.set_cons_succ] at HLN
  clear hL HL
  have HL := Lib.hid HLN.out
  clear HLN
  go_wp2_with fail
  refine (HL.out.fire2 0 3 rfl rfl 2 hl5 (by decide) (by decide)).mono ?_
  rintro e w6 ⟨L6, rfl, hl6, hL⟩
  have HLN := Lib.hid hL
  simp only [List.set_cons_zero, List.set_cons_succ] at HLN
  clear hL HL
  have HL := Lib.hid HLN.out
  clear HLN
  go_wp2_with fail
  refine (HL.out.fired2 0 3 rfl rfl 3 hl6 (by decide)).mono ?_
  rintro e w7 ⟨L7, rfl, hl7, hL⟩
  have HLN := Lib.hid hL
  simp only [List.set_cons_zero, List.set_cons_succ] at HLN
  clear hL HL
  have HL := Lib.hid HLN.out
  clear HLN
  go_wp2_with fail
  refine (HL.out.full2 (by decide) 0 rfl).mono ?_
  rintro e w8 ⟨rfl, hL⟩
  have HL8 := Lib.hid hL
  simp only [List.set_cons_zero] at HL8
  clear hL HL
  have HL := Lib.hid HL8.out
  clear HL8
  go_wp2_with fail
  refine (num15 _ _).mono ?_
  rintro e wn ⟨rfl, rfl⟩
  go_wp2_with fail
  refine (num15 _ _).mono ?_
  rintro e wn ⟨rfl, rfl⟩
  go_wp2_with fail
  refine (num15 _ _).mono ?_
  rintro e wn ⟨rfl, rfl⟩
  go_wp2_with fail
  refine (num15 _ _).mono ?_
  rintro e wn ⟨rfl, rfl⟩
  go_wp2_with fail
  refine (num15 _ _).mono ?_
  rintro e wn ⟨rfl, rfl⟩
  go_wp2_with fail
  refine (num15 _ _).mono ?_
  rintro e wn ⟨rfl, rfl⟩
  go_wp2_with fail
  refine (num15 _ _).mono ?_
  rintro e wn ⟨rfl, rfl⟩
  go_wp2_with fail
  refine (sync15 _ _).mono ?_
  rintro e w9 ⟨rfl, ht⟩
  have HLN := Lib.hid (HL.out.touch ht)
  clear ht HL
  have HL := Lib.hid HLN.out
  clear HLN
  go_wp2_with fail
  refine (HL.out.wait2 4 (by decide) 1 2 3 rfl rfl (by decide) (by decide) (by decide) rfl (by simp)).mono ?_
  rintro e w10 ⟨y1, rfl, hy1, hL⟩
  have HL10 := Lib.hid hL
  simp only [List.set_cons_zero, List.set_cons_succ, List.nil_append] at HL10
  have HY1 := Lib.hid hy1
  clear hL HL hy1
  have HL := Lib.hid HL10.out
  clear HL10
  go_wp2_with fail
  refine (sync15 _ _).mono ?_
  rintro e w11 ⟨rfl, ht⟩
  have HLN := Lib.hid (HL.out.touch ht)
  clear ht HL
  have HL := Lib.hid HLN.out
  clear HLN
  go_wp2_with fail
  refine (HL.out.wait2 5 (by decide) 1 2 3 rfl rfl (by decide) (by decide) (by decide) rfl (by simp)).mono ?_
  rintro e w12 ⟨y2, rfl, hy2, hL⟩
  have HL12 := Lib.hid hL
  simp only [List.set_cons_zero, List.set_cons_succ, List.nil_append, List.cons_append] at HL12
  have HY2 := Lib.hid hy2
  clear hL HL hy2
  have HL := Lib.hid HL12.out
  clear HL12
  go_wp2_with fail
  refine (HL.out.cNext 1 3 rfl rfl (by simp)).mono ?_
  rintro e w13 (⟨x, r, hx, rfl, hL⟩ | ⟨hx, _⟩)
  rotate_left
  · cases hx
  obtain ⟨rfl, rfl⟩ := List.cons.inj hx
  have HL13 := Lib.hid (hL.alloc 27 #[.int .i64 y1.sync, .int .i64 y1.thread, .int .i64 y1.branch, .int .i64 y1.flag, .int .i64 y1.v.kind, .int .i64 y1.v.num, .slice y1.v.addr y1.v.parts.length y1.v.cap])
  simp only [List.set_cons_zero, List.set_cons_succ, List.nil_append, List.cons_append] at HL13
  clear hL HL hx
  have HL := Lib.hid HL13.out
  clear HL13
  simp only [ent_eq]
  go_wp2_with fail
  refine (HL.out.cNext 1 3 rfl rfl (by simp)).mono ?_
  rintro e w14 (⟨x, r, hx, rfl, hL⟩ | ⟨hx, _⟩)
  rotate_left
  · cases hx
  obtain ⟨rfl, rfl⟩ := List.cons.inj hx
  have HL14 := Lib.hid (hL.alloc 27 #[.int .i64 y2.sync, .int .i64 y2.thread, .int .i64 y2.branch, .int .i64 y2.flag, .int .i64 y2.v.kind, .int .i64 y2.v.num, .slice y2.v.addr y2.v.parts.length y2.v.cap])
  simp only [List.set_cons_zero, List.set_cons_succ, List.nil_append, List.cons_append] at HL14
  clear hL HL hx
  have HL := Lib.hid HL14.out
  clear HL14
  simp only [ent_eq]
  go_wp2_with fail
  refine (HL.out.cNext 1 3 rfl rfl (by simp)).mono ?_
  rintro e w15 (⟨x, r, hx, _⟩ | ⟨_, rfl, hL⟩)
  · cases hx
  have HL15 := Lib.hid hL
  simp only [List.set_cons_zero, List.set_cons_succ] at HL15
  clear hL HL
  have HL := Lib.hid (HL15.out.alloc 27 #[.int .i64 0, .int .i64 0, .int .i64 0, .int .i64 0, .int .i64 0, .int .i64 0, .slice none 0 0])
  simp only [List.nil_append, List.cons_append] at HL
  clear HL15
  rw [zero_val]
  go_wp2_with fail
  refine (HL.out.lock2 0 3 rfl rfl 4 hl7 (by decide) (by decide)).mono ?_
  rintro e w16 ⟨L16, rfl, hl16, hL⟩
  have HLN := Lib.hid hL
  simp only [List.set_cons_zero, List.set_cons_succ] at HLN
  clear hL HL
  have HL := Lib.hid HLN.out
  clear HLN
  go_wp2_with fail
  refine (HL.out.lock2 0 3 rfl rfl 5 hl16 (by decide) (by decide)).mono ?_
  rintro e w17 ⟨L17, rfl, hl17, hL⟩
  have HLN := Lib.hid hL
  simp only [List.set_cons_zero, List.set_cons_succ] at HLN
  clear hL HL
  have HL := Lib.hid HLN.out
  clear HLN
  go_wp2_with fail
  refine (HL.out.unlock2 0 3 rfl rfl 6 hl17 (by decide) (by decide)).mono ?_
  rintro e w18 ⟨L18, rfl, hl18, hL⟩
  have HLN := Lib.hid hL
  simp only [List.set_cons_zero, List.set_cons_succ] at HLN
  clear hL HL
  have HL := Lib.hid HLN.out
  clear HLN
  go_wp2_with fail
  refine (HL.out.unlock2 0 3 rfl rfl 7 hl18 (by decide) (by decide)).mono ?_
  rintro e w19 ⟨L19, rfl, hl19, hL⟩
  have HLN := Lib.hid hL
  simp only [List.set_cons_zero, List.set_cons_succ] at HLN
  clear hL HL
  have HL := Lib.hid HLN.out
  clear HLN
  obtain ⟨c0, _⟩ := HL.out.c7 4 rfl
  obtain ⟨d0, _⟩ := HL.out.c7 5 rfl
  rw [show y1.sync = 4 from congrArg PE.sync HY1.out] at c0
  rw [show y2.sync = 5 from congrArg PE.sync HY2.out] at d0
  go_wp2_with fail
  refine (num15 _ _).mono ?_
  rintro e wn ⟨rfl, rfl⟩
  go_wp2_with fail
  refine (num15 _ _).mono ?_
  rintro e wn ⟨rfl, rfl⟩
  go_wp2_with fail
  refine (num15 _ _).mono ?_
  rintro e wn ⟨rfl, rfl⟩
  go_wp2_with fail
  refine (num15 _ _).mono ?_
  rintro e wn ⟨rfl, rfl⟩
  go_wp2_with fail
  refine (num15 _ _).mono ?_
  rintro e wn ⟨rfl, rfl⟩
  go_wp2_with fail
  refine (num15 _ _).mono ?_
  rintro e wn ⟨rfl, rfl⟩
  go_wp2
  go_ret
  exact ⟨rfl, HL.out.tch⟩
end Go.Proofs.Ytihmbgdkllmkaaa
