/-
  Layer 15 (cond.go): none, lock, fired, made, New, Lock, Unlock, Fired, Fire, Len, Cells.
-/
import Derived.Test.YtihmbgdkllmkaaaQueueFullW
import Derived.Test.YtihmbgdkllmkaaaArT
import Derived.Laws.CopyOwn
namespace Go.Proofs.Ytihmbgdkllmkaaa
open Go.RowKit Go.Shelf
set_option maxRecDepth 100000
set_option linter.unusedVariables false
set_option linter.unusedSimpArgs false

/-- A condition: its two cells, its queue. -/
def CondAt (w : World) (c : Nat) (l f : Int) (q : Nat) : Prop := Blk w c 90 #[.int .i64 l, .int .i64 f, .pointer (some ⟨q, 0, none⟩)]
theorem CondAt.touch {w w' : World} {c : Nat} {l f : Int} {q : Nat} (h : CondAt w c l f q) (ht : Touch [] w w') : CondAt w' c l f q := Blk.touch h ht (by simp)
theorem CondAt.cells {w : World} {c : Nat} {l f : Int} {q : Nat} (h : CondAt w c l f q) : w.cell? ⟨c, 0, none⟩ = some (.int .i64 l) ∧ w.cell? ⟨c, 1, none⟩ = some (.int .i64 f) ∧ w.cell? ⟨c, 2, none⟩ = some (.pointer (some ⟨q, 0, none⟩)) ∧ c < w.heap.size ∧ c < w.heap.size + 1 := by
  have hl := Blk.lt h
  exact ⟨Blk.cell h 0, Blk.cell h 1, Blk.cell h 2, hl, by omega⟩
theorem Led.condAt {T : List Nat} {w0 w : World} {l : List Thing} {c : Nat} {a f : Int} {q : Nat} (h : Led T w0 w l) (i : Nat) (hi : l[i]? = some (Proofs.Ytihmbgdkllmkaaa.box c 90 #[.int .i64 a, .int .i64 f, .pointer (some ⟨q, 0, none⟩)])) : CondAt w c a f q := h.box i hi

section
variable (w : World) (c : Nat) (l f : Int) (q : Nat) (hc : CondAt w c l f q)
include hc
theorem cnone_no : Calls Try.prog 79 #[.pointer (some ⟨c, 0, none⟩)] w fun e w' => e = .returned (.bool false) ∧ w = w' := by
  obtain ⟨c0, c1, c2, hl, _⟩ := hc.cells
  clear hc
  go_enter Try.func79, Try.ntmps79
  go_wp2
  go_ret
  exact ⟨rfl, rfl⟩
end
theorem cnone_nil (w : World) : Calls Try.prog 79 #[.pointer none] w fun e w' => e = .returned (.bool true) ∧ w = w' := by
  go_enter Try.func79, Try.ntmps79
  go_wp2
  go_ret
  exact ⟨rfl, rfl⟩
theorem lock_c (l f : Int) (w : World) : Calls Try.prog 84 #[.agg #[.int .i64 l, .int .i64 f]] w fun e w' => e = .returned (.int .i64 l) ∧ Touch [] w w' := by
  have HT := Lib.hid ((Touch.refl [] w).alloc (.cells #[.int .i64 l, .int .i64 f] 88))
  go_enter Try.func84, Try.ntmps84
  go_wp2
  go_ret
  exact ⟨rfl, HT.out⟩
theorem fired_c (l f : Int) (w : World) : Calls Try.prog 81 #[.agg #[.int .i64 l, .int .i64 f]] w fun e w' => e = .returned (.int .i64 f) ∧ Touch [] w w' := by
  have HT := Lib.hid ((Touch.refl [] w).alloc (.cells #[.int .i64 l, .int .i64 f] 88))
  go_enter Try.func81, Try.ntmps81
  go_wp2
  go_ret
  exact ⟨rfl, HT.out⟩
section
variable (w : World) (c : Nat) (l f : Int) (q : Nat) (hc : CondAt w c l f q) (p : Option Addr) (R : World → Prop)
include hc
theorem Lock_c (d : Bool) (er : Nat) (h : ∀ W, Touch [] w W → Calls Try.prog 83 #[.pointer p, .int .i64 l] W fun e w' => e = .returned (.tuple #[.bool d, .int .i64 (er : Int)]) ∧ R w') :
    Calls Try.prog 44 #[.pointer (some ⟨c, 0, none⟩), .pointer p] w fun e w' => e = .returned (.tuple #[.bool d, .int .i64 (er : Int)]) ∧ R w' := by
  obtain ⟨c0, c1, c2, hl, _⟩ := hc.cells
  have HC := Lib.hid hc
  have H := Lib.hid h
  clear hc h
  go_enter Try.func44, Try.ntmps44
  go_wp2_with fail
  refine (cnone_no _ _ _ _ _ HC.out).mono ?_
  rintro e w' ⟨rfl, rfl⟩
  go_wp2_with fail
  refine (lock_c _ _ _).mono ?_
  rintro e w1 ⟨rfl, ht⟩
  have H1 := Lib.hid (H.out w1 ht)
  clear ht H
  go_wp2_with fail
  refine H1.out.mono ?_
  rintro e w2 ⟨rfl, hr⟩
  have HR := Lib.hid hr
  clear hr
  go_wp2
  go_ret2
  exact ⟨rfl, HR.out⟩
theorem Unlock_c (er : Nat) (h : ∀ W, Touch [] w W → Calls Try.prog 85 #[.pointer p, .int .i64 l] W fun e w' => e = .returned (.int .i64 (er : Int)) ∧ R w') :
    Calls Try.prog 46 #[.pointer (some ⟨c, 0, none⟩), .pointer p] w fun e w' => e = .returned (.int .i64 (er : Int)) ∧ R w' := by
  obtain ⟨c0, c1, c2, hl, _⟩ := hc.cells
  have HC := Lib.hid hc
  have H := Lib.hid h
  clear hc h
  go_enter Try.func46, Try.ntmps46
  go_wp2_with fail
  refine (cnone_no _ _ _ _ _ HC.out).mono ?_
  rintro e w' ⟨rfl, rfl⟩
  go_wp2_with fail
  refine (lock_c _ _ _).mono ?_
  rintro e w1 ⟨rfl, ht⟩
  have H1 := Lib.hid (H.out w1 ht)
  clear ht H
  go_wp2_with fail
  refine H1.out.mono ?_
  rintro e w2 ⟨rfl, hr⟩
  have HR := Lib.hid hr
  clear hr
  go_wp2
  go_ret
  exact ⟨rfl, HR.out⟩
/-- What Fired tells. -/
theorem Fired_c (v er : Nat) (d : Bool) (hd : d = (decide (er = 0) && decide (v ≠ 0))) (h : ∀ W, Touch [] w W → Calls Try.prog 82 #[.pointer p, .int .i64 f] W fun e w' => e = .returned (.tuple #[.int .u64 (v : Int), .int .i64 (er : Int)]) ∧ R w') :
    Calls Try.prog 41 #[.pointer (some ⟨c, 0, none⟩), .pointer p] w fun e w' => e = .returned (.tuple #[.bool d, .int .i64 (er : Int)]) ∧ R w' := by
  obtain ⟨c0, c1, c2, hl, _⟩ := hc.cells
  have HC := Lib.hid hc
  have H := Lib.hid h
  have eg := enters_of Try.func82 (by kernel_rfl) rfl
  have HD := Lib.hid hd
  clear hc h hd
  by_cases he : er = 0
  · subst he
    by_cases hv : v = 0
    · subst hv
      obtain rfl : d = false := by rw [HD.out]; rfl
      go_enter Try.func41, Try.ntmps41
      go_wp2_with fail
      refine (cnone_no _ _ _ _ _ HC.out).mono ?_
      rintro e w' ⟨rfl, rfl⟩
      go_wp2_with fail
      refine (fired_c _ _ _).mono ?_
      rintro e w1 ⟨rfl, ht⟩
      have H1 := Lib.hid (H.out w1 ht)
      clear ht H
      go_wp2_with fail
      refine H1.out.mono ?_
      rintro e w2 ⟨rfl, hr⟩
      have HR := Lib.hid hr
      clear hr
      go_wp2
      go_ret2
      exact ⟨rfl, HR.out⟩
    · obtain rfl : d = true := by rw [HD.out]; simp [hv]
      have hv' : ((v : Int) != 0) = true := by simp; omega
      go_enter Try.func41, Try.ntmps41
      go_wp2_with fail
      refine (cnone_no _ _ _ _ _ HC.out).mono ?_
      rintro e w' ⟨rfl, rfl⟩
      go_wp2_with fail
      refine (fired_c _ _ _).mono ?_
      rintro e w1 ⟨rfl, ht⟩
      have H1 := Lib.hid (H.out w1 ht)
      clear ht H
      go_wp2_with fail
      refine H1.out.mono ?_
      rintro e w2 ⟨rfl, hr⟩
      have HR := Lib.hid hr
      clear hr
      go_wp2
      go_ret2
      exact ⟨rfl, HR.out⟩
  · obtain rfl : d = false := by rw [HD.out]; simp [he]
    have he' : ((er : Int) == 0) = false := by simp; omega
    go_enter Try.func41, Try.ntmps41
    go_wp2_with fail
    refine (cnone_no _ _ _ _ _ HC.out).mono ?_
    rintro e w' ⟨rfl, rfl⟩
    go_wp2_with fail
    refine (fired_c _ _ _).mono ?_
    rintro e w1 ⟨rfl, ht⟩
    have H1 := Lib.hid (H.out w1 ht)
    clear ht H
    go_wp2_with fail
    refine H1.out.mono ?_
    rintro e w2 ⟨rfl, hr⟩
    have HR := Lib.hid hr
    clear hr
    go_wp2
    go_ret2
    exact ⟨rfl, HR.out⟩
theorem Fire_c (v er : Nat) (d : Bool) (fe : Nat) (hfe : fe = if er = 0 ∧ d = false then 150 else er) (h : ∀ W, Touch [] w W → Calls Try.prog 80 #[.pointer p, .int .i64 f, .int .u64 0, .int .u64 1] W fun e w' => e = .returned (.tuple #[.int .u64 (v : Int), .bool d, .int .i64 (er : Int)]) ∧ R w') :
    Calls Try.prog 37 #[.pointer (some ⟨c, 0, none⟩), .pointer p] w fun e w' => e = .returned (.int .i64 (fe : Int)) ∧ R w' := by
  obtain ⟨c0, c1, c2, hl, _⟩ := hc.cells
  have HC := Lib.hid hc
  have H := Lib.hid h
  have eg := enters_of Try.func80 (by kernel_rfl) rfl
  have HD := Lib.hid hfe
  clear hc h hfe
  by_cases he : er = 0
  · subst he
    cases d with
    | true =>
      obtain rfl : fe = 0 := by rw [HD.out]; rfl
      go_enter Try.func37, Try.ntmps37
      go_wp2
      refine wp_scope_fwd 0 rfl ?_
      go_wp2_with fail
      refine (cnone_no _ _ _ _ _ HC.out).mono ?_
      rintro e w' ⟨rfl, rfl⟩
      go_wp2_with fail
      refine (fired_c _ _ _).mono ?_
      rintro e w1 ⟨rfl, ht⟩
      have H1 := Lib.hid (H.out w1 ht)
      clear ht H
      go_wp2_with fail
      refine H1.out.mono ?_
      rintro e w2 ⟨rfl, hr⟩
      have HR := Lib.hid hr
      clear hr
      go_wp2
      go_step3
      go_wp2
      refine jump_ret ?_
      go_ret
      exact ⟨rfl, HR.out⟩
    | false =>
      obtain rfl : fe = 150 := by rw [HD.out]; rfl
      go_enter Try.func37, Try.ntmps37
      go_wp2
      refine wp_scope_fwd 0 rfl ?_
      go_wp2_with fail
      refine (cnone_no _ _ _ _ _ HC.out).mono ?_
      rintro e w' ⟨rfl, rfl⟩
      go_wp2_with fail
      refine (fired_c _ _ _).mono ?_
      rintro e w1 ⟨rfl, ht⟩
      have H1 := Lib.hid (H.out w1 ht)
      clear ht H
      go_wp2_with fail
      refine H1.out.mono ?_
      rintro e w2 ⟨rfl, hr⟩
      have HR := Lib.hid hr
      clear hr
      go_wp2
      go_step3
      go_wp2
      refine jump_ret ?_
      go_ret
      exact ⟨rfl, HR.out⟩
  · obtain rfl : fe = er := by rw [HD.out]; simp [he]
    have he' : ((fe : Int) == 0) = false := by simp; omega
    go_enter Try.func37, Try.ntmps37
    go_wp2
    refine wp_scope_fwd 0 rfl ?_
    go_wp2_with fail
    refine (cnone_no _ _ _ _ _ HC.out).mono ?_
    rintro e w' ⟨rfl, rfl⟩
    go_wp2_with fail
    refine (fired_c _ _ _).mono ?_
    rintro e w1 ⟨rfl, ht⟩
    have H1 := Lib.hid (H.out w1 ht)
    clear ht H
    go_wp2_with fail
    refine H1.out.mono ?_
    rintro e w2 ⟨rfl, hr⟩
    have HR := Lib.hid hr
    clear hr
    go_wp2
    go_step3
    go_wp2
    refine jump_ret ?_
    go_ret
    exact ⟨rfl, HR.out⟩
theorem Len_c (es : List ME) (hq : QAt w q es) : Calls Try.prog 42 #[.pointer (some ⟨c, 0, none⟩)] w fun e w' => e = .returned (.int .i64 (es.length : Int)) ∧ w = w' := by
  obtain ⟨c0, c1, c2, hl, _⟩ := hc.cells
  have HC := Lib.hid hc
  have HQ := Lib.hid hq
  clear hc hq
  go_enter Try.func42, Try.ntmps42
  go_wp2_with fail
  refine (cnone_no _ _ _ _ _ HC.out).mono ?_
  rintro e w' ⟨rfl, rfl⟩
  go_wp2_with fail
  refine (Len_q _ _ _ HQ.out).mono ?_
  rintro e w' ⟨rfl, rfl⟩
  go_wp2
  go_ret
  exact ⟨rfl, rfl⟩
theorem Cells_c : Calls Try.prog 45 #[.pointer (some ⟨c, 0, none⟩)] w fun e w' => e = .returned (.tuple #[.int .i64 l, .int .i64 f]) ∧ Touch [] w w' := by
  obtain ⟨c0, c1, c2, hl, _⟩ := hc.cells
  have HC := Lib.hid hc
  clear hc
  go_enter Try.func45, Try.ntmps45
  go_wp2_with fail
  refine (cnone_no _ _ _ _ _ HC.out).mono ?_
  rintro e w' ⟨rfl, rfl⟩
  go_wp2_with fail
  have HTm := Lib.hid ((Touch.refl [] w).drew)
  go_region_held3 (fun w' => w'.cell? ⟨c, 0, none⟩ = some (.int .i64 l) ∧ w'.cell? ⟨c, 1, none⟩ = some (.int .i64 f)) (go_keep)
    (first
    | (go_at_call 84; refine (lock_c _ _ _).mono ?_; rintro en wn ⟨rfl, ht⟩; have HTm := Lib.hid (HTm.out.trans' ht); clear ht c0 c1; (obtain ⟨c0, c1, _, _, _⟩ := (HC.out.touch HTm.out).cells))
    | (go_at_call 81; refine (fired_c _ _ _).mono ?_; rintro en wn ⟨rfl, ht⟩; have HTm := Lib.hid (HTm.out.trans' ht); clear ht c0 c1; (obtain ⟨c0, c1, _, _, _⟩ := (HC.out.touch HTm.out).cells)))
  go_wp2
  go_ret2
  exact ⟨rfl, HTm.out⟩
end
theorem build_cond (q : Option Addr) (w : World) (h : Try.prog.built 90 [(1, .pointer q)] = some #[.int .i64 0, .int .i64 0, .pointer q]) : (Instr.build 90 #[(1, .pointer q)]).run Try.prog w = .ok (.agg #[.int .i64 0, .int .i64 0, .pointer q]) w := run_build w 90 _ _ h
attribute [local go_sem] build_cond
set_option maxHeartbeats 1000000 in
theorem made_c (w : World) (q : Option Addr) (b o cap : Nat) (l f : Int) (h0 : w.cell? ⟨b, o, none⟩ = some (.int .i64 l)) (h1 : w.cell? ⟨b, o + 1, none⟩ = some (.int .i64 f)) :
    Calls Try.prog 78 #[.pointer q, .slice (some ⟨b, o, none⟩) 2 cap] w fun e w' => e = .returned (.pointer (some ⟨w.heap.size, 0, none⟩)) ∧ Blk w' w.heap.size 90 #[.int .i64 l, .int .i64 f, .pointer q] ∧ Touch [] w w' := by
  have hbc : ∀ W, (Instr.build 90 #[(1, .pointer q)]).run Try.prog W = .ok (.agg #[.int .i64 0, .int .i64 0, .pointer q]) W := fun W => build_cond q W (by cases q <;> rfl)
  obtain ⟨w2, hcp, hbk, hbl⟩ : ∃ w2, (Builtin.copy_ #[45, 45] 3 #[.slice (some ⟨w.heap.size, 0, none⟩) 2 2, .slice (some ⟨b, o, none⟩) 2 cap]).run Try.prog (w.alloc (.cells #[.int .i64 0, .int .i64 0, .pointer q] 90)) = .ok (.int .i64 2) w2 ∧
      Blk w2 w.heap.size 90 #[.int .i64 l, .int .i64 f, .pointer q] ∧ Below w.heap.size w w2 := by
    have hb : Blk (w.alloc (.cells #[.int .i64 0, .int .i64 0, .pointer q] 90)) w.heap.size 90 #[.int .i64 0, .int .i64 0, .pointer q] := Blk.new w _ _
    have hT := (Touch.refl [] w).alloc (.cells #[.int .i64 0, .int .i64 0, .pointer q] 90)
    have hr := run_copy_row (P := Try.prog) (w.alloc (.cells #[.int .i64 0, .int .i64 0, .pointer q] 90)) 45 45 3 3 w.heap.size 0 2 2 ⟨b, o, none⟩ 2 cap _ _ [.int .i64 l, .int .i64 f] Try.underlying45 (by kernel_rfl) hb rfl (fun j v hj => by
      match j, hj with
      | 0, hj => simp at hj; subst hj; rw [Addr.add_lit]; exact hT.cellOf h0
      | 1, hj => simp at hj; subst hj; rw [Addr.add_lit]; exact hT.cellOf h1
      | j + 2, hj => simp at hj) (by simp) (by simp [Value.oneCell'])
    refine ⟨_, hr, ?_, below_setRow hT.below (Nat.le_refl _) _⟩
    exact setRow_heap _ _ _ _ _ _ hb
  have HB := Lib.hid hbk
  have HL := Lib.hid hbl
  clear hbk hbl
  go_enter Try.func78, Try.ntmps78
  go_wp2
  go_ret
  exact ⟨rfl, HB.out, Touch.of_below HL.out []⟩
/-- New, in a ledger with an arena. -/
theorem Led.cNew {T : List Nat} {w0 w : World} {l : List Thing} {g : Nat} {s : Ar} (h : Led T w0 w l) (i : Nat) (hi : l[i]? = some (arena g s)) (hok : s.C.length + 2 ≤ s.most) :
    Calls Try.prog 35 #[.pointer (some ⟨g, 0, none⟩)] w fun e w' => ∃ q c, e = .returned (.tuple #[.pointer (some ⟨c, 0, none⟩), .int .i64 0]) ∧
      Led T w0 w' (l.set i (arena g (s.allocA 2).1) ++ [queueT q [], valsT [], Proofs.Ytihmbgdkllmkaaa.box c 90 #[.int .i64 (s.C.length : Int), .int .i64 (s.C.length + 1 : Int), .pointer (some ⟨q, 0, none⟩)]]) := by
  have hal := h.ar i hi (fun fp hI => Alloc_any w g fp s 2 hI)
  have e1 : (s.allocA 2).2.1 = s.C.length ∧ (s.allocA 2).2.2 = 0 := by unfold Ar.allocA; rw [if_neg (by omega), if_neg (by omega)]; exact ⟨rfl, rfl⟩
  rw [e1.1, e1.2] at hal
  have HA := Lib.hid hal
  have hm := (h.artAll i hi).2.2
  clear hal e1 h hi
  go_enter Try.func35, Try.ntmps35
  go_wp2
  refine wp_scope_fwd 0 rfl ?_
  go_wp2_with fail
  refine HA.out.mono ?_
  rintro e w1 ⟨rfl, hL⟩
  have HL := Lib.hid hL
  clear hL HA
  go_wp2_with fail
  refine (New_q w1 HL.out).mono ?_
  rintro e w2 ⟨q, rfl, hL⟩
  have HL2 := Lib.hid hL.vals0
  clear hL HL
  go_wp2_with fail
  refine (made_c _ _ _ _ _ (s.C.length : Int) (s.C.length + 1 : Int) (by simp) (by simp)).mono ?_
  rintro e w3 ⟨rfl, hb, ht⟩
  have HL3 : Hid (Led T w0 w3 (l.set i (arena g (s.allocA 2).1) ++ [queueT q [], valsT [], Proofs.Ytihmbgdkllmkaaa.box (w2.heap.size + 1) 90 #[.int .i64 (s.C.length : Int), .int .i64 (s.C.length + 1 : Int), .pointer (some ⟨q, 0, none⟩)]])) := by
    have h1 := (HL2.out.alloc_ (.cells #[.int .i64 (s.C.length : Int), .int .i64 (s.C.length + 1 : Int)] 3)).new (t' := Proofs.Ytihmbgdkllmkaaa.box (w2.heap.size + 1) 90 #[.int .i64 (s.C.length : Int), .int .i64 (s.C.length + 1 : Int), .pointer (some ⟨q, 0, none⟩)]) (f' := [w2.heap.size + 1]) ⟨rfl, by simpa using hb⟩ ⟨ht, fun k hk => .inr (by simp at hk; simp; omega)⟩
    unfold Hid
    simpa using h1
  clear hb ht HL2
  go_wp2
  go_step3
  go_wp2
  refine jump_ret ?_
  go_ret2
  exact ⟨q, _, rfl, by simpa using HL3.out⟩
theorem Led.cNew_full {T : List Nat} {w0 w : World} {l : List Thing} {g : Nat} {s : Ar} (h : Led T w0 w l) (i : Nat) (hi : l[i]? = some (arena g s)) (hok : ¬ s.C.length + 2 ≤ s.most) :
    Calls Try.prog 35 #[.pointer (some ⟨g, 0, none⟩)] w fun e w' => e = .returned (.tuple #[.pointer none, .int .i64 6]) ∧ Led T w0 w' (l.set i (arena g (s.allocA 2).1)) := by
  have hal := h.ar i hi (fun fp hI => Alloc_any w g fp s 2 hI)
  have hm := (h.artAll i hi).2.2
  have e1 : (s.allocA 2).2.1 = 0 ∧ (s.allocA 2).2.2 = 6 := by unfold Ar.allocA; rw [if_neg (by omega), if_pos (by omega)]; exact ⟨rfl, rfl⟩
  rw [e1.1, e1.2] at hal
  have HA := Lib.hid hal
  clear hal e1 h hi
  go_enter Try.func35, Try.ntmps35
  go_wp2
  refine wp_scope_fwd 0 rfl ?_
  go_wp2_with fail
  refine HA.out.mono ?_
  rintro e w1 ⟨rfl, hL⟩
  have HL := Lib.hid hL
  clear hL HA
  go_wp2
  go_step3
  refine ⟨rfl, ?_⟩
  go_wp2
  refine noGoto_ret' ?_
  go_ret2
  exact ⟨rfl, HL.out⟩
end Go.Proofs.Ytihmbgdkllmkaaa
