/-
  Texts 3 of 5 that ChannelCopies rests on, laid together by program: Chan1, ScopeIn, NoQ, Chan2, Chan3, NoAr, ChanN, R14, R14b, W14, QueueSameW, Few14, AppendIn, AppendAny, Ref01, RDo, RDo2, RDo3, RT, RGo, R03.
-/
import Derived.Test.YtihmbgdkllmkaaaDoorCC1
import Derived.Test.YtihmbgdkllmkaaaDoorCC2
import Derived.ControlIn
import Derived.Scope
import Derived.OwnWalkIn
import Derived.Deep.AppendLies
import Derived.Deep.Cut
import Derived.Deep.RegionHeld3
/-
  Layer 14 (channel.go): none, queue, open, New, try, free, Lock, Unlock, Cell.
-/
namespace Go.Proofs.YtihmbgdkllmkaaaDoor
open Go.RowKit Go.Shelf
set_option maxRecDepth 100000
set_option linter.unusedVariables false
set_option linter.unusedSimpArgs false

/-- The queues of the sides. -/
def mapObj (q1 q2 : Nat) : Obj := .map #[⟨.int .i64 1, .pointer (some ⟨q1, 0, none⟩), 0⟩, ⟨.int .i64 2, .pointer (some ⟨q2, 0, none⟩), 1⟩] 2
def qOf (s : Int) (q1 q2 : Nat) : Option Addr := if s = 1 then some ⟨q1, 0, none⟩ else if s = 2 then some ⟨q2, 0, none⟩ else none
/-- A channel: its lock's cell, the map of its queues. -/
def ChAt (w : World) (c : Nat) (at_ : Int) (M q1 q2 : Nat) : Prop := Blk w c 75 #[.int .i64 at_, .map (some M)] ∧ w.heap[M]? = some (mapObj q1 q2)
theorem ChAt.touch {w w' : World} {c : Nat} {a : Int} {M q1 q2 : Nat} (h : ChAt w c a M q1 q2) (ht : Touch [] w w') : ChAt w' c a M q1 q2 :=
  ⟨Blk.touch h.1 ht (by simp), (ht.block M (Array.getElem?_eq_some_iff.1 h.2).1 (by simp)).trans h.2⟩
theorem ChAt.cells {w : World} {c : Nat} {a : Int} {M q1 q2 : Nat} (h : ChAt w c a M q1 q2) : w.cell? ⟨c, 0, none⟩ = some (.int .i64 a) ∧ w.cell? ⟨c, 1, none⟩ = some (.map (some M)) ∧ c < w.heap.size ∧ c < w.heap.size + 1 := by
  have hl := Blk.lt h.1
  exact ⟨Blk.cell h.1 0, Blk.cell h.1 1, hl, by omega⟩
/-- The two sides, as the program's text lays them. -/
def SidesAt (w : World) : Prop := w.cell? ⟨0, 0, none⟩ = some (.int .i64 1) ∧ w.cell? ⟨0, 1, none⟩ = some (.int .i64 2)
theorem SidesAt.touch {w w' : World} (h : SidesAt w) (ht : Touch [] w w') : SidesAt w' := ⟨ht.cellOf h.1, ht.cellOf h.2⟩
/-- A look-up of a side. -/
theorem look_side (w : World) (M q1 q2 : Nat) (h : w.heap[M]? = some (mapObj q1 q2)) (s : Int) : (Instr.lookup 73 (.map (some M)) (.int .i64 s) false).run Tryd.prog w = .ok (.pointer (qOf s q1 q2)) w := by
  unfold mapObj at h
  have hu := Tryd.underlying73
  have hk := Tryd.underlying45
  unfold qOf
  by_cases h1 : s = 1
  · subst h1
    have hf : Instr.findNow (.int .i64) (.int .i64 1) [⟨.int .i64 1, .pointer (some ⟨q1, 0, none⟩), 0⟩, ⟨.int .i64 2, .pointer (some ⟨q2, 0, none⟩), 1⟩] 0 = some (some (0, .pointer (some ⟨q1, 0, none⟩))) := by kernel_rfl
    simp [Instr.lookup, run_underlying hu, run_getObj_m h, run_checkKey_i false 9999 hk, run_findKey_i hk 1 _ hf]
  by_cases h2 : s = 2
  · subst h2
    have hf : Instr.findNow (.int .i64) (.int .i64 2) [⟨.int .i64 1, .pointer (some ⟨q1, 0, none⟩), 0⟩, ⟨.int .i64 2, .pointer (some ⟨q2, 0, none⟩), 1⟩] 0 = some (some (1, .pointer (some ⟨q2, 0, none⟩))) := by kernel_rfl
    simp [Instr.lookup, run_underlying hu, run_getObj_m h, run_checkKey_i false 9999 hk, run_findKey_i hk 2 _ hf]
  · have hf : Instr.findNow (.int .i64) (.int .i64 s) [⟨.int .i64 1, .pointer (some ⟨q1, 0, none⟩), 0⟩, ⟨.int .i64 2, .pointer (some ⟨q2, 0, none⟩), 1⟩] 0 = some none := by
      have e1 : Instr.sameNow (.int .i64) (.int .i64 s) (.int .i64 1) = some false := by simp [Instr.sameNow, h1]
      have e2 : Instr.sameNow (.int .i64) (.int .i64 s) (.int .i64 2) = some false := by simp [Instr.sameNow, h2]
      simp [Instr.findNow, e1, e2]
    have hz : (zeroValue 101).run Tryd.prog w = .ok (.pointer none) w := by kernel_rfl
    simp [Instr.lookup, run_underlying hu, run_getObj_m h, run_checkKey_i false 9999 hk, run_findKey_i hk s _ hf, hz, h1, h2]
theorem mapq_has (w : World) (M : Nat) : (binOp .eql 73 (.map (some M)) (.map none)).run Tryd.prog w = .ok (.bool false) w := by kernel_rfl
section
variable (w : World) (c : Nat) (a : Int) (M q1 q2 : Nat) (hc : ChAt w c a M q1 q2)
include hc
theorem chnone_no : Calls Tryd.prog 38 #[.pointer (some ⟨c, 0, none⟩)] w fun e w' => e = .returned (.bool false) ∧ w = w' := by
  obtain ⟨c0, c1, hl, _⟩ := hc.cells
  have hmn := mapq_has w M
  clear hc
  go_enter Tryd.func38, Tryd.ntmps38
  go_wp2
  go_ret
  exact ⟨rfl, rfl⟩
theorem queue_c (s : Int) : Calls Tryd.prog 37 #[.pointer (some ⟨c, 0, none⟩), .int .i64 s] w fun e w' => e = .returned (.pointer (qOf s q1 q2)) ∧ w = w' := by
  obtain ⟨c0, c1, hl, _⟩ := hc.cells
  have HC := Lib.hid hc
  have hlk := look_side w M q1 q2 hc.2 s
  clear hc
  go_enter Tryd.func37, Tryd.ntmps37
  go_wp2_with fail
  refine (chnone_no _ _ _ _ _ _ HC.out).mono ?_
  rintro e w' ⟨rfl, rfl⟩
  go_wp2
  go_ret
  exact ⟨rfl, rfl⟩
theorem Cell_ch : Calls Tryd.prog 25 #[.pointer (some ⟨c, 0, none⟩)] w fun e w' => e = .returned (.int .i64 a) ∧ w = w' := by
  obtain ⟨c0, c1, hl, _⟩ := hc.cells
  have HC := Lib.hid hc
  clear hc
  go_enter Tryd.func25, Tryd.ntmps25
  go_wp2_with fail
  refine (chnone_no _ _ _ _ _ _ HC.out).mono ?_
  rintro e w' ⟨rfl, rfl⟩
  go_wp2
  go_ret
  exact ⟨rfl, rfl⟩
end
theorem made_mapQ (h : Int) (W : World) : (Instr.makeMap 73 (some (.int .i64 h))).run Tryd.prog W = .ok (.map (some W.heap.size)) (W.alloc (.map #[] 0)) := by
  simp [Instr.makeMap, run_underlying Tryd.underlying73, asInt, asIntOf, newObj]
  rfl
theorem put_side (w : World) (M : Nat) (es : Array MapEntry) (clock : Nat) (hr : w.heap[M]? = some (.map es clock)) (s : Int) (hf : Instr.findNow (.int .i64) (.int .i64 s) es.toList 0 = some none) (v : Value) :
    (Instr.mapUpdate 73 (.map (some M)) (.int .i64 s) v).run Tryd.prog w = .ok () (w.putObj M (.map (es.push ⟨.int .i64 s, v, clock⟩) (clock + 1))) := by
  simp [Instr.mapUpdate, run_underlying Tryd.underlying73, run_getObj_m hr, run_checkKey_i false 9999 Tryd.underlying45, run_findKey_i Tryd.underlying45 s es.toList hf, run_setObj_m _ hr]
theorem Led.via {T : List Nat} {w0 w w' : World} {l : List Thing} (h : Led T w0 w l) (e : w = w') : Led T w0 w' l := e ▸ h
theorem exit_nameQ {Q : Exit → Act → World → Prop} {ex : Exit} {a : Act} {W : World} (h : ∀ w2, W = w2 → Q ex a w2) : Q ex a W := h W rfl
theorem Led.exq {T : List Nat} {w0 w : World} {l : List Thing} (h : Led T w0 w l) (i : Nat) {b : Nat} {o : Obj} (hi : l[i]? = some (exact1 b o)) : w.heap[b]? = some o := let ⟨_, h, _⟩ := h.get i hi; h.2
theorem Led.exqput {T : List Nat} {w0 w : World} {l : List Thing} (h : Led T w0 w l) (i : Nat) {b : Nat} {o : Obj} (hi : l[i]? = some (exact1 b o)) (o' : Obj) : Led T w0 (w.putObj b o') (l.set i (exact1 b o')) := by
  obtain ⟨f, ⟨hf, hb⟩, _, hs⟩ := h.step i hi
  subst hf
  exact hs _ (exact1 b o') [b] ⟨rfl, World.putObj_heap_same (Array.getElem?_eq_some_iff.1 hb).1⟩ ⟨(Touch.refl _ w).putObj (.inr (by simp)) o', fun k hk => .inl hk⟩
theorem Led.exqnew {T : List Nat} {w0 w : World} {l : List Thing} (h : Led T w0 w l) (o : Obj) : Led T w0 (w.alloc o) (l ++ [exact1 w.heap.size o]) :=
  h.new (t' := exact1 w.heap.size o) (f' := [w.heap.size]) ⟨rfl, heap_alloc_new w _⟩ ⟨(Touch.refl [] w).alloc _, fun k hk => .inr (by simp at hk; omega)⟩
theorem Led.chAt {T : List Nat} {w0 w : World} {l : List Thing} {c M q1 q2 : Nat} {a : Int} (h : Led T w0 w l) (i j : Nat) (hi : l[i]? = some (Proofs.YtihmbgdkllmkaaaDoor.box c 75 #[.int .i64 a, .map (some M)])) (hj : l[j]? = some (exact1 M (mapObj q1 q2))) : ChAt w c a M q1 q2 := ⟨h.box i hi, h.exq j hj⟩
/-- The things of a channel. -/
def chanL (c : Nat) (a : Int) (M q1 q2 : Nat) (es1 es2 : List ME) : List Thing := [box c 75 #[.int .i64 a, .map (some M)], exact1 M (mapObj q1 q2), queueT q1 es1, queueT q2 es2]
set_option maxHeartbeats 2000000 in
theorem open_c (T : List Nat) (w : World) (c b : Nat) (a : Int) (h : Led T w w [box c 75 #[.int .i64 a, .map none], box b 45 #[.int .i64 1, .int .i64 2]]) :
    Calls Tryd.prog 32 #[.pointer (some ⟨c, 0, none⟩), .slice (some ⟨b, 0, none⟩) 2 2] w fun e w' => e = .returned (.tuple #[]) ∧ ∃ M q1 q2, Led T w w' (chanL c a M q1 q2 [] []) := by
  have HL0 := Lib.hid h
  clear h
  obtain ⟨c0, c1, f0, f1, hl, _, _⟩ := HL0.out.c2 0 rfl
  have hmk := made_mapQ 2
  go_enter Tryd.func32, Tryd.ntmps32
  have g1 := HL0.out.c2 1 rfl
  obtain ⟨s0, s1, _, _, sl, _, _⟩ := g1
  have hx1 : c ≠ w.heap.size := by omega
  have hx2 := Ne.symm hx1
  go_wp2_with fail
  refine wp_name ?_
  intro w1 hw1
  have HL1 := Lib.hid (((HL0.out.set 0 rfl 1 (.map (some w.heap.size))).exqnew (.map #[] 0)).via hw1)
  simp only [World.size_setCell, List.nil_append, List.cons_append, List.set_cons_zero, List.setIfInBounds_toArray, List.set_cons_succ] at HL1
  obtain ⟨M, hM⟩ : ∃ b, w.heap.size = b := ⟨_, rfl⟩
  rw [hM] at HL1 ⊢
  clear hw1 hM HL0 c0 c1 f0 f1 hl s0 s1 sl hmk hx1 hx2
  go_loopw [14] (fun i wr => (i = .int .i64 0 ∧ Hid (Led T w wr [box c 75 #[.int .i64 a, .map (some M)], box b 45 #[.int .i64 1, .int .i64 2], exact1 M (.map #[] 0)])) ∨
      (i = .int .i64 1 ∧ ∃ q1, Hid (Led T w wr [box c 75 #[.int .i64 a, .map (some M)], box b 45 #[.int .i64 1, .int .i64 2], exact1 M (.map #[⟨.int .i64 1, .pointer (some ⟨q1, 0, none⟩), 0⟩] 1), queueT q1 []])) ∨
      (i = .int .i64 2 ∧ ∃ q1 q2, Hid (Led T w wr [box c 75 #[.int .i64 a, .map (some M)], box b 45 #[.int .i64 1, .int .i64 2], exact1 M (mapObj q1 q2), queueT q1 [], queueT q2 []]))) (fun i _ => 2 - (intOf i).toNat)
  case atStart => exact .inl ⟨rfl, HL1⟩
  case round =>
    clear HL1
    rcases hrel with ⟨rfl, HK⟩ | ⟨rfl, q1, HK⟩ | ⟨rfl, q1, q2, HK⟩
    · obtain ⟨c0, c1, f0, f1, hl, _, _⟩ := HK.out.c2 0 rfl
      obtain ⟨s0, s1, _, _, sl, _, _⟩ := HK.out.c2 1 rfl
      go_wp2_with fail
      go_region_held3 (fun w' => w'.cell? ⟨c, 1, none⟩ = some (.map (some M))) (go_keep) (first
        | (go_at_call 64; refine (New_q _ HK.out.drew).mono ?_; rintro e w3 ⟨q1, rfl, hL⟩; have HL3 := Lib.hid hL; (simp only [List.nil_append, List.cons_append] at HL3); clear hL c0 c1 f0 f1 hl; obtain ⟨c0, c1, f0, f1, hl, _, _⟩ := HL3.out.c2 0 rfl; have hmu := put_side w3 M #[] 0 (HL3.out.exq 2 rfl) 1 rfl (.pointer (some ⟨q1, 0, none⟩)); have hk1 := (fun o => ((HL3.out.exqput 2 rfl o).c2 0 rfl).2.1); (simp only [List.push_toArray, List.nil_append, Nat.reduceAdd] at hmu)))
      rename_i hHeld
      clear hHeld hmu hk1 c0 c1 f0 f1 hl s0 s1 sl HK
      refine exit_nameQ ?_
      intro w4 hw4
      have HL4 : Hid (Led T w w4 [box c 75 #[.int .i64 a, .map (some M)], box b 45 #[.int .i64 1, .int .i64 2], exact1 M (.map #[⟨.int .i64 1, .pointer (some ⟨q1, 0, none⟩), 0⟩] 1), queueT q1 []]) := (HL3.out.exqput 2 rfl (.map #[⟨.int .i64 1, .pointer (some ⟨q1, 0, none⟩), 0⟩] 1)).via hw4
      clear hw4 HL3
      go_wp2
      go_roundw
      case rel => exact .inr (.inl ⟨by go_num, q1, HL4⟩)
      case measure => simp [intOf]
    · obtain ⟨c0, c1, f0, f1, hl, _, _⟩ := HK.out.c2 0 rfl
      obtain ⟨s0, s1, _, _, sl, _, _⟩ := HK.out.c2 1 rfl
      go_wp2_with fail
      go_region_held3 (fun w' => w'.cell? ⟨c, 1, none⟩ = some (.map (some M))) (go_keep) (first
        | (go_at_call 64; refine (New_q _ HK.out.drew).mono ?_; rintro e w3 ⟨q2, rfl, hL⟩; have HL3 := Lib.hid hL; (simp only [List.nil_append, List.cons_append] at HL3); clear hL c0 c1 f0 f1 hl; obtain ⟨c0, c1, f0, f1, hl, _, _⟩ := HL3.out.c2 0 rfl; have hmu := put_side w3 M #[⟨.int .i64 1, .pointer (some ⟨q1, 0, none⟩), 0⟩] 1 (HL3.out.exq 2 rfl) 2 rfl (.pointer (some ⟨q2, 0, none⟩)); have hk1 := (fun o => ((HL3.out.exqput 2 rfl o).c2 0 rfl).2.1); (simp only [List.push_toArray, List.nil_append, List.cons_append, Nat.reduceAdd] at hmu)))
      rename_i hHeld
      clear hHeld hmu hk1 c0 c1 f0 f1 hl s0 s1 sl HK
      refine exit_nameQ ?_
      intro w4 hw4
      have HL4 : Hid (Led T w w4 [box c 75 #[.int .i64 a, .map (some M)], box b 45 #[.int .i64 1, .int .i64 2], exact1 M (mapObj q1 q2), queueT q1 [], queueT q2 []]) := (HL3.out.exqput 2 rfl (mapObj q1 q2)).via hw4
      clear hw4 HL3
      go_wp2
      go_roundw
      case rel => exact .inr (.inr ⟨by go_num, q1, q2, HL4⟩)
      case measure => simp [intOf]
    · go_wp2
      go_end0
      exact ⟨rfl, M, q1, q2, HK.out.sel [0, 2, 3, 4] rfl (by decide)⟩
theorem Led.chNew {T : List Nat} {w0 w : World} {l : List Thing} {g : Nat} {s : Ar} (h : Led T w0 w l) (i : Nat) (hi : l[i]? = some (arena g s)) (hS : ∀ W, Led T w0 W (l.set i (arena g (s.allocA 1).1)) → SidesAt W) (hok : s.C.length + 1 ≤ s.most) :
    Calls Tryd.prog 9 #[.pointer (some ⟨g, 0, none⟩)] w fun e w' => ∃ c M q1 q2, e = .returned (.tuple #[.pointer (some ⟨c, 0, none⟩), .int .i64 0]) ∧ Led T w0 w' (l.set i (arena g (s.allocA 1).1) ++ chanL c (s.C.length : Int) M q1 q2 [] []) := by
  have hal := h.ar i hi (fun fp hI => SpinNew_any w g fp s hI)
  have e1 : (s.allocA 1).2.1 = s.C.length ∧ (s.allocA 1).2.2 = 0 := by unfold Ar.allocA; rw [if_neg (by omega), if_neg (by omega)]; exact ⟨rfl, rfl⟩
  rw [e1.1, e1.2] at hal
  have HA := Lib.hid hal
  clear hal e1 h hi
  go_enter Tryd.func9, Tryd.ntmps9
  go_wp2
  refine wp_scope_fwd 0 rfl ?_
  go_wp2_with fail
  refine HA.out.mono ?_
  rintro e w1 ⟨rfl, hL⟩
  have HL := Lib.hid hL
  obtain ⟨t0, t1⟩ := hS w1 hL
  have tl : 0 < w1.heap.size := World.block_lt_of_cell? _ _ t0
  have tl1 : 0 < w1.heap.size + 1 := by omega
  clear hL HA
  have hbc : ∀ W, (Instr.build 75 #[(0, .agg #[.int .i64 (s.C.length : Int)])]).run Tryd.prog W = .ok (.agg #[.int .i64 (s.C.length : Int), .map none]) W := fun W => run_build W 75 _ _ (by kernel_rfl)
  have hbl : ∀ W, (Instr.build 72 #[(0, .int .i64 (s.C.length : Int))]).run Tryd.prog W = .ok (.agg #[.int .i64 (s.C.length : Int)]) W := fun W => run_build W 72 _ _ (by kernel_rfl)
  go_wp2_with fail
  refine wp_calls_name ?_
  intro w2 hw2
  have HL2 := Lib.hid (((HL.out.alloc 75 #[.int .i64 (s.C.length : Int), .map none]).alloc 45 #[.int .i64 1, .int .i64 2]).via hw2)
  simp only [World.size_alloc] at HL2
  obtain ⟨c, hc⟩ : ∃ b, w1.heap.size = b := ⟨_, rfl⟩
  rw [hc] at HL2 ⊢
  clear hw2 hc t0 t1 tl tl1 HL hbc hbl
  have h2 : Led T w0 w2 ([Proofs.YtihmbgdkllmkaaaDoor.box c 75 #[.int .i64 (s.C.length : Int), .map none], Proofs.YtihmbgdkllmkaaaDoor.box (c + 1) 45 #[.int .i64 1, .int .i64 2]] ++ l.set i (arena g (s.allocA 1).1)) := by
    have := Led.swapEnd (a := []) (b := l.set i (arena g (s.allocA 1).1)) (c := [Proofs.YtihmbgdkllmkaaaDoor.box c 75 #[.int .i64 (s.C.length : Int), .map none], Proofs.YtihmbgdkllmkaaaDoor.box (c + 1) 45 #[.int .i64 1, .int .i64 2]]) (by simpa using HL2.out)
    simpa using this
  obtain ⟨T', hF, hb⟩ := h2.frameFront
  refine (open_c T' w2 c (c + 1) _ hF).mono ?_
  rintro e w3 ⟨rfl, M, q1, q2, hL⟩
  have HL3 : Hid (Led T w0 w3 (l.set i (arena g (s.allocA 1).1) ++ chanL c (s.C.length : Int) M q1 q2 [] [])) := by
    have := Led.swapEnd (a := []) (b := chanL c (s.C.length : Int) M q1 q2 [] []) (c := l.set i (arena g (s.allocA 1).1)) (by simpa using hb _ _ hL)
    simpa [Hid] using this
  clear hL hb hF h2 HL2
  go_wp2
  go_step3
  go_wp2
  refine jump_ret ?_
  go_ret2
  exact ⟨c, M, q1, q2, rfl, HL3.out⟩
theorem Led.chNew_full {T : List Nat} {w0 w : World} {l : List Thing} {g : Nat} {s : Ar} (h : Led T w0 w l) (i : Nat) (hi : l[i]? = some (arena g s)) (hok : ¬ s.C.length + 1 ≤ s.most) :
    Calls Tryd.prog 9 #[.pointer (some ⟨g, 0, none⟩)] w fun e w' => e = .returned (.tuple #[.pointer none, .int .i64 6]) ∧ Led T w0 w' (l.set i (arena g (s.allocA 1).1)) := by
  have hal := h.ar i hi (fun fp hI => SpinNew_any w g fp s hI)
  have hm := (h.artAll i hi).2.2
  have e1 : (s.allocA 1).2.1 = 0 ∧ (s.allocA 1).2.2 = 6 := by unfold Ar.allocA; rw [if_neg (by omega), if_pos (by omega)]; exact ⟨rfl, rfl⟩
  rw [e1.1, e1.2] at hal
  have HA := Lib.hid hal
  clear hal e1 h hi
  go_enter Tryd.func9, Tryd.ntmps9
  go_wp2
  refine wp_scope_fwd 0 rfl ?_
  go_wp2_with fail
  refine HA.out.mono ?_
  rintro e w1 ⟨rfl, hL⟩
  have HL := Lib.hid hL
  clear hL HA
  go_wp2
  go_step3
  refine ⟨rfl, ?_⟩
  go_wp2
  refine noGoto_ret' ?_
  go_ret2
  exact ⟨rfl, HL.out⟩
theorem try_l (w : World) (a : Int) (p : Option Addr) (R : World → Prop) (b : Bool) (er : Int) (hf : ∀ W, Touch [] w W → Calls Tryd.prog 76 #[.pointer p, .int .i64 a] W fun e w' => e = .returned (.tuple #[.bool b, .int .i64 er]) ∧ R w') : Calls Tryd.prog 57 #[.agg #[.int .i64 a], .pointer p] w fun e w' => e = .returned (.tuple #[.bool b, .int .i64 er]) ∧ R w' := by
  have HF := Lib.hid (hf _ ((Touch.refl [] w).alloc (.cells #[.int .i64 a] 72)))
  clear hf
  go_enter Tryd.func57, Tryd.ntmps57
  go_wp2_with fail
  refine HF.out.mono ?_
  rintro e w' ⟨rfl, hr⟩
  have HR := Lib.hid hr
  clear hr
  go_wp2
  go_ret2
  exact ⟨rfl, HR.out⟩
theorem free_l (w : World) (a : Int) (p : Option Addr) (R : World → Prop) (er : Int) (hf : ∀ W, Touch [] w W → Calls Tryd.prog 77 #[.pointer p, .int .i64 a] W fun e w' => e = .returned (.int .i64 er) ∧ R w') : Calls Tryd.prog 58 #[.agg #[.int .i64 a], .pointer p] w fun e w' => e = .returned (.int .i64 er) ∧ R w' := by
  have HF := Lib.hid (hf _ ((Touch.refl [] w).alloc (.cells #[.int .i64 a] 72)))
  clear hf
  go_enter Tryd.func58, Tryd.ntmps58
  go_wp2_with fail
  refine HF.out.mono ?_
  rintro e w' ⟨rfl, hr⟩
  have HR := Lib.hid hr
  clear hr
  go_wp2
  go_ret
  exact ⟨rfl, HR.out⟩
section
variable (w : World) (c : Nat) (a : Int) (M q1 q2 : Nat) (hc : ChAt w c a M q1 q2) (p : Option Addr) (R : World → Prop)
include hc
/-- Lock, over whatever Try tells. -/
theorem Lock_ch (b : Bool) (er : Int) (hf : ∀ W, Touch [] w W → Calls Tryd.prog 76 #[.pointer p, .int .i64 a] W fun e w' => e = .returned (.tuple #[.bool b, .int .i64 er]) ∧ R w') : Calls Tryd.prog 21 #[.pointer (some ⟨c, 0, none⟩), .pointer p] w fun e w' => e = .returned (.tuple #[.bool b, .int .i64 er]) ∧ R w' := by
  obtain ⟨c0, c1, hl, hl1⟩ := hc.cells
  have HC := Lib.hid hc
  have HT := Lib.hid (try_l w a p R b er hf)
  clear hc hf
  go_enter Tryd.func21, Tryd.ntmps21
  go_wp2_with fail
  refine (chnone_no _ _ _ _ _ _ HC.out).mono ?_
  rintro e w' ⟨rfl, rfl⟩
  go_wp2_with fail
  refine HT.out.mono ?_
  rintro e w' ⟨rfl, hr⟩
  have HR := Lib.hid hr
  clear hr
  go_wp2
  go_ret2
  exact ⟨rfl, HR.out⟩
theorem Unlock_ch (er : Int) (hf : ∀ W, Touch [] w W → Calls Tryd.prog 77 #[.pointer p, .int .i64 a] W fun e w' => e = .returned (.int .i64 er) ∧ R w') : Calls Tryd.prog 22 #[.pointer (some ⟨c, 0, none⟩), .pointer p] w fun e w' => e = .returned (.int .i64 er) ∧ R w' := by
  obtain ⟨c0, c1, hl, hl1⟩ := hc.cells
  have HC := Lib.hid hc
  have HT := Lib.hid (free_l w a p R er hf)
  clear hc hf
  go_enter Tryd.func22, Tryd.ntmps22
  go_wp2_with fail
  refine (chnone_no _ _ _ _ _ _ HC.out).mono ?_
  rintro e w' ⟨rfl, rfl⟩
  go_wp2_with fail
  refine HT.out.mono ?_
  rintro e w' ⟨rfl, hr⟩
  have HR := Lib.hid hr
  clear hr
  go_wp2
  go_ret
  exact ⟨rfl, HR.out⟩
end
section
variable {T : List Nat} {w0 w : World} {l : List Thing} {g c M q1 q2 : Nat} {a : Int} {s : Ar}
theorem Led.chLock (h : Led T w0 w l) (i : Nat) (hi : l[i]? = some (arena g s)) (hc : ChAt w c a M q1 q2) (hn : s.L.length < 4611686018427387904) :
    Calls Tryd.prog 21 #[.pointer (some ⟨c, 0, none⟩), .pointer (some ⟨g, 0, none⟩)] w fun e w' => e = .returned (.tuple #[.bool (s.swap a 0 1).2.1.did, .int .i64 ((s.swap a 0 1).2.2 : Int)]) ∧ Led T w0 w' (l.set i (arena g (s.swap a 0 1).1)) :=
  Lock_ch w c a M q1 q2 hc _ (fun w' => Led T w0 w' (l.set i (arena g (s.swap a 0 1).1))) _ _ (fun W hW => (h.touch hW).ar i hi (fun fp hI => Try_any W g fp s hI a hn))
theorem Led.chUnlock (h : Led T w0 w l) (i : Nat) (hi : l[i]? = some (arena g s)) (hc : ChAt w c a M q1 q2) (hn : s.L.length < 4611686018427387904) :
    Calls Tryd.prog 22 #[.pointer (some ⟨c, 0, none⟩), .pointer (some ⟨g, 0, none⟩)] w fun e w' => e = .returned (.int .i64 (s.freeE a : Int)) ∧ Led T w0 w' (l.set i (arena g (s.swap a 1 0).1)) :=
  Unlock_ch w c a M q1 q2 hc _ (fun w' => Led T w0 w' (l.set i (arena g (s.swap a 1 0).1))) _ (fun W hW => (h.touch hW).ar i hi (fun fp hI => Free_any W g fp s hI a hn))
end
end Go.Proofs.YtihmbgdkllmkaaaDoor

/-
  A scope through which a fenced run goes without a goto. No program is in sight. (The kit's wp_scope_straight, fenced.)
-/
namespace Go.Proofs.YtihmbgdkllmkaaaDoor

section
variable {F : Fence} {n : Nat} {P : Program} {b : Frame} {a : Act} {k : List Item} {cs : List Frame} {w : World} {Q : Exit → Act → World → Prop}
theorem stepR_scope {c : Code} : step P (lone (b.atR a (.code (.scope c) :: k)) cs w) = .next (lone (b.atR a (.code c :: .inScope c :: k)) cs w) :=
  step_lone_go (by simp [stepG, stepG.exec, Frame.atR])
theorem stepR_inScope {c : Code} : step P (lone (b.atR a (.inScope c :: k)) cs w) = .next (lone (b.atR a k) cs w) :=
  step_lone_go (by simp [stepG, stepG.exec, Frame.atR])
theorem wpIn_scope_straight {c : Code} (h : c.wpIn F n P (Exit.noGoto Q) a w) : (Code.scope c).wpIn F n P Q a w := by
  intro b k cs hro hb hr
  have h0 : (lone (b.atR a (.code (.scope c) :: k)) cs w).fenced P F := fenced_calm hb hr rfl
  obtain ⟨e, a₁, w₁, hq, harr⟩ := h b (.inScope c :: k) cs hro hb hr
  cases e with
  | normal => exact ⟨.normal, a₁, w₁, hq, .head h0 stepR_scope (StepsIn.trans harr (.one (fenced_calm hb hr rfl) stepR_inScope))⟩
  | exit id =>
    have hx : exitTo id (.inScope c :: k) = exitTo id k := by simp [exitTo]
    exact ⟨.exit id, a₁, w₁, hq, fun k' hk => .head h0 stepR_scope (harr.1 k' (by rw [hx]; exact hk)),
      fun hr' hk => let ⟨k₁, h1, h2⟩ := harr.2 hr' (by rw [hx]; exact hk); ⟨k₁, h1, .head h0 stepR_scope h2⟩⟩
  | goto l => exact hq.elim
  | ret => exact ⟨_, a₁, w₁, hq, .of_steps (.one h0 stepR_scope) harr⟩
  | panic ch => exact ⟨_, a₁, w₁, hq, .of_steps (.one h0 stepR_scope) harr⟩
  | outgrown => exact ⟨_, a₁, w₁, hq, .of_steps (.one h0 stepR_scope) harr⟩
theorem noGoto_normal {a : Act} {w : World} (h : Q .normal a w) : Exit.noGoto Q .normal a w := h
end
end Go.Proofs.YtihmbgdkllmkaaaDoor

/-
  Layer 13: the methods of no queue (nil, or one that was not made).
-/
namespace Go.Proofs.YtihmbgdkllmkaaaDoor
open Go.RowKit Go.Shelf
set_option maxRecDepth 100000
set_option linter.unusedVariables false
set_option linter.unusedSimpArgs false

/-- There is no queue. -/
def NoQ (W : World) (p : Option Addr) : Prop := p = none ∨ ∃ g, p = some ⟨g, 0, none⟩ ∧ W.cell? ⟨g, 0, none⟩ = some (.bool false)
theorem NoQ.touch {w w' : World} {p : Option Addr} (h : NoQ w p) (ht : Touch [] w w') : NoQ w' p := by
  rcases h with h | ⟨g, h1, h2⟩
  · exact .inl h
  · exact .inr ⟨g, h1, ht.cellOf h2⟩
theorem none_n (w : World) (p : Option Addr) (h : NoQ w p) : Calls Tryd.prog 65 #[.pointer p] w fun e w' => e = .returned (.bool true) ∧ w = w' := by
  rcases h with rfl | ⟨g, rfl, h⟩
  · exact none_nil w
  · exact none_zero g w h
theorem Len_n (w : World) (p : Option Addr) (h : NoQ w p) : Calls Tryd.prog 42 #[.pointer p] w fun e w' => e = .returned (.int .i64 0) ∧ Touch [] w w' := by
  have HN := Lib.hid (fun W (hW : Touch [] w W) => none_n W p (h.touch hW))
  clear h
  go_enter Tryd.func42, Tryd.ntmps42
  go_wp2_with fail
  refine (HN.out _ (Touch.refl [] w)).mono ?_
  rintro e w' ⟨rfl, rfl⟩
  go_wp2
  all_goals go_ret
  exact ⟨rfl, Touch.refl [] _⟩
theorem Copy_n (w : World) (p : Option Addr) (h : NoQ w p) : Calls Tryd.prog 60 #[.pointer p] w fun e w' => e = .returned (.pointer none) ∧ Touch [] w w' := by
  have HN := Lib.hid (fun W (hW : Touch [] w W) => none_n W p (h.touch hW))
  clear h
  go_enter Tryd.func60, Tryd.ntmps60
  go_wp2_with fail
  refine (HN.out _ (Touch.refl [] w)).mono ?_
  rintro e w' ⟨rfl, rfl⟩
  go_wp2
  all_goals go_ret
  exact ⟨rfl, Touch.refl [] _⟩
theorem At_n (w : World) (p : Option Addr) (h : NoQ w p) (z : Int) : Calls Tryd.prog 44 #[.pointer p, .int .i64 z] w fun e w' => e = .returned (.tuple #[ME.zero.val, .bool false]) ∧ Touch [] w w' := by
  have hbe := build_ent
  simp only [ent_eq, ME.zero, MT.zero, MT.kind, MT.num, MT.addr, MT.parts, MT.cap, List.length_nil] at hbe
  have HN := Lib.hid (fun W (hW : Touch [] w W) => none_n W p (h.touch hW))
  clear h
  go_enter Tryd.func44, Tryd.ntmps44
  go_wp2_with fail
  refine wp_calls_name ?_
  intro w1 hw1
  have HL1 := Lib.hid ((Led.nil' w).al1 hw1)
  simp only [List.nil_append, List.cons_append] at HL1
  obtain ⟨b4, hb4⟩ : ∃ b, w.heap.size = b := ⟨_, rfl⟩
  rw [hb4] at HL1 ⊢
  clear hb4 hw1
  refine (HN.out _ HL1.out.tch).mono ?_
  rintro e w' ⟨rfl, rfl⟩
  obtain ⟨r0, r1, r2, r3, r4, r5, r6, ⟨f0, f1, f2, f3, f4, f5, f6⟩, zr, _, _⟩ := HL1.out.c7 0 rfl
  go_wp2
  have HL2 := Lib.hid (HL1.out.setEnt 0 rfl 0 0 0 0 0 0 (.slice none 0 0))
  simp only [List.set_cons_zero] at HL2
  obtain ⟨s0, s1, s2, s3, s4, s5, s6, _⟩ := HL2.out.c7 0 rfl
  refine bodyPost_ret (v := .tuple #[ME.zero.val, .bool false]) (by simp [results, Tryd.results44, go_sem, s0, s1, s2, s3, s4, s5, s6, ent_eq, ME.zero, MT.zero, MT.kind, MT.num, MT.addr, MT.parts, MT.cap]) rfl ?_
  exact ⟨rfl, HL2.out.tch⟩
theorem Drop_n (w : World) (p : Option Addr) (h : NoQ w p) (z : Int) : Calls Tryd.prog 36 #[.pointer p, .int .i64 z] w fun e w' => e = .returned (.tuple #[ME.zero.val, .bool false]) ∧ Touch [] w w' := by
  have hbe := build_ent
  simp only [ent_eq, ME.zero, MT.zero, MT.kind, MT.num, MT.addr, MT.parts, MT.cap, List.length_nil] at hbe
  have HN := Lib.hid (fun W (hW : Touch [] w W) => none_n W p (h.touch hW))
  clear h
  go_enter Tryd.func36, Tryd.ntmps36
  go_wp2_with fail
  refine wp_calls_name ?_
  intro w1 hw1
  have HL1 := Lib.hid ((Led.nil' w).al1 hw1)
  simp only [List.nil_append, List.cons_append] at HL1
  obtain ⟨b4, hb4⟩ : ∃ b, w.heap.size = b := ⟨_, rfl⟩
  rw [hb4] at HL1 ⊢
  clear hb4 hw1
  refine (HN.out _ HL1.out.tch).mono ?_
  rintro e w' ⟨rfl, rfl⟩
  obtain ⟨r0, r1, r2, r3, r4, r5, r6, ⟨f0, f1, f2, f3, f4, f5, f6⟩, zr, _, _⟩ := HL1.out.c7 0 rfl
  go_wp2
  have HL2 := Lib.hid (HL1.out.setEnt 0 rfl 0 0 0 0 0 0 (.slice none 0 0))
  simp only [List.set_cons_zero] at HL2
  obtain ⟨s0, s1, s2, s3, s4, s5, s6, _⟩ := HL2.out.c7 0 rfl
  refine bodyPost_ret (v := .tuple #[ME.zero.val, .bool false]) (by simp [results, Tryd.results36, go_sem, s0, s1, s2, s3, s4, s5, s6, ent_eq, ME.zero, MT.zero, MT.kind, MT.num, MT.addr, MT.parts, MT.cap]) rfl ?_
  exact ⟨rfl, HL2.out.tch⟩
theorem Push_n (w : World) (p : Option Addr) (h : NoQ w p) (a : Option Addr) (n c : Nat) : Calls Tryd.prog 39 #[.pointer p, .slice a n c] w fun e w' => e = .returned (.int .i64 1) ∧ Touch [] w w' := by
  have HN := Lib.hid (fun W (hW : Touch [] w W) => none_n W p (h.touch hW))
  clear h
  go_enter Tryd.func39, Tryd.ntmps39
  go_wp2
  refine wp_scope_fwd 0 rfl ?_
  go_wp2_with fail
  refine (HN.out _ (Touch.refl [] w)).mono ?_
  rintro e w' ⟨rfl, rfl⟩
  go_wp2
  go_step3
  refine ⟨rfl, ?_⟩
  go_wp2
  refine noGoto_ret' ?_
  go_ret
  exact ⟨rfl, Touch.refl [] _⟩
theorem All_n (w : World) (p : Option Addr) (h : NoQ w p) : Calls Tryd.prog 59 #[.pointer p] w fun e w' => ∃ bx, e = .returned (.func (.func 79) #[] #[.pointer (some ⟨bx, 0, none⟩)]) ∧ Led [] w w' [allT bx (.slice none 0 0) []] := by
  have HN := Lib.hid (fun W (hW : Touch [] w W) => none_n W p (h.touch hW))
  clear h
  go_enter Tryd.func59, Tryd.ntmps59
  go_wp2_with fail
  refine wp_calls_name ?_
  intro w1 hw1
  have HL1 := Lib.hid (((Led.nil' w).al1 hw1).rowSnil 42 7).vals0
  simp only [List.nil_append, List.cons_append] at HL1
  obtain ⟨b3, hb3⟩ : ∃ b, w.heap.size = b := ⟨_, rfl⟩
  rw [hb3] at HL1 ⊢
  clear hb3 hw1
  refine (HN.out _ HL1.out.tch).mono ?_
  rintro e w' ⟨rfl, rfl⟩
  go_wp2
  go_ret
  exact ⟨b3, rfl, Led.shutAll (l := []) (ys := []) rfl HL1.out⟩
end Go.Proofs.YtihmbgdkllmkaaaDoor

/-
  Layer 14 (channel.go): Push, Look, Drop, Len, All.
-/
namespace Go.Proofs.YtihmbgdkllmkaaaDoor
open Go.RowKit Go.Shelf
set_option maxRecDepth 100000
set_option linter.unusedVariables false
set_option linter.unusedSimpArgs false

/-- The queue of a side. -/
def QSide (q1 q2 : Nat) (s : Int) (g : Nat) : Prop := qOf s q1 q2 = some ⟨g, 0, none⟩
theorem len1_c (w : World) (g : Nat) (es : List ME) (h : QAt w g es) : Calls Tryd.prog 41 #[.pointer (some ⟨g, 0, none⟩)] w fun e w' => e = .returned (.tuple #[.int .i64 (es.length : Int), .bool true]) ∧ w = w' := by
  have H := Lib.hid h
  clear h
  go_enter Tryd.func41, Tryd.ntmps41
  go_wp2_with fail
  refine (Len_q w g es H.out).mono ?_
  rintro e w' ⟨rfl, rfl⟩
  go_wp2
  go_ret2
  exact ⟨rfl, rfl⟩
section
variable (w : World) (c : Nat) (a : Int) (M q1 q2 : Nat) (hc : ChAt w c a M q1 q2) (s : Int)
include hc
theorem All_ch (g : Nat) (es : List ME) (hq : qOf s q1 q2 = some ⟨g, 0, none⟩) (h : QAt w g es) (hin : ∀ e ∈ es, e.v.In w ∧ e.v.nodes ≤ 256) (hlen : es.length ≤ 4096) : Calls Tryd.prog 24 #[.pointer (some ⟨c, 0, none⟩), .int .i64 s] w (AllTold es w) := by
  have HC := Lib.hid (fun W (hW : Touch [] w W) => hc.touch hW)
  have HA := Lib.hid (All_q w g es h hin (by omega))
  clear hc h hin
  go_enter Tryd.func24, Tryd.ntmps24
  go_wp2_with fail
  refine (queue_c _ _ _ _ _ _ (HC.out _ (Touch.refl [] w)) s).mono ?_
  rintro e w' ⟨rfl, rfl⟩
  rw [hq]
  go_wp2_with fail
  refine HA.out.mono ?_
  rintro e w' ⟨bx, ra, rc, ys, rfl, hpy, hL⟩
  have HPY := Lib.hid hpy
  have HL := Lib.hid hL
  clear hpy hL
  go_wp2
  go_ret
  exact ⟨bx, ra, rc, ys, rfl, HPY.out, HL.out⟩
theorem All_ch_no (hq : qOf s q1 q2 = none) : Calls Tryd.prog 24 #[.pointer (some ⟨c, 0, none⟩), .int .i64 s] w (AllTold [] w) := by
  have HC := Lib.hid (fun W (hW : Touch [] w W) => hc.touch hW)
  clear hc
  go_enter Tryd.func24, Tryd.ntmps24
  go_wp2_with fail
  refine (queue_c _ _ _ _ _ _ (HC.out _ (Touch.refl [] w)) s).mono ?_
  rintro e w' ⟨rfl, rfl⟩
  rw [hq]
  go_wp2_with fail
  refine (All_n w none (.inl rfl)).mono ?_
  rintro e w' ⟨bx, rfl, hL⟩
  have HL := Lib.hid hL
  clear hL
  go_wp2
  go_ret
  exact ⟨bx, none, 0, [], rfl, rfl, HL.out⟩
theorem Len_ch (g : Nat) (es : List ME) (hq : qOf s q1 q2 = some ⟨g, 0, none⟩) (h : QAt w g es) : Calls Tryd.prog 15 #[.pointer (some ⟨c, 0, none⟩), .int .i64 s] w fun e w' => e = .returned (.int .i64 (es.length : Int)) ∧ w = w' := by
  have HC := Lib.hid (fun W (hW : Touch [] w W) => hc.touch hW)
  have H := Lib.hid h
  have HR : Hid (Calls Tryd.prog 40 #[.pointer (some ⟨c, 0, none⟩), .int .i64 s, .func (.func 41) #[] #[]] w fun e w' => e = .returned (.tuple #[.int .i64 (es.length : Int), .bool true]) ∧ w = w') := by
    unfold Hid
    go_enter Tryd.func40, Tryd.ntmps40
    go_wp2_with fail
    refine (queue_c _ _ _ _ _ _ (HC.out _ (Touch.refl [] w)) s).mono ?_
    rintro e w' ⟨rfl, rfl⟩
    rw [hq]
    go_wp2_with fail
    refine (len1_c w g es H.out).mono ?_
    rintro e w' ⟨rfl, rfl⟩
    go_wp2
    go_ret2
    exact ⟨rfl, rfl⟩
  clear hc h
  go_enter Tryd.func15, Tryd.ntmps15
  go_wp2_with fail
  refine HR.out.mono ?_
  rintro e w' ⟨rfl, rfl⟩
  go_wp2
  go_ret
  exact ⟨rfl, rfl⟩
theorem Len_ch_no (hq : qOf s q1 q2 = none) : Calls Tryd.prog 15 #[.pointer (some ⟨c, 0, none⟩), .int .i64 s] w fun e w' => e = .returned (.int .i64 0) ∧ w = w' := by
  have HC := Lib.hid (fun W (hW : Touch [] w W) => hc.touch hW)
  have HR : Hid (Calls Tryd.prog 40 #[.pointer (some ⟨c, 0, none⟩), .int .i64 s, .func (.func 41) #[] #[]] w fun e w' => e = .returned (.tuple #[.int .i64 0, .bool false]) ∧ w = w') := by
    unfold Hid
    go_enter Tryd.func40, Tryd.ntmps40
    go_wp2_with fail
    refine (queue_c _ _ _ _ _ _ (HC.out _ (Touch.refl [] w)) s).mono ?_
    rintro e w' ⟨rfl, rfl⟩
    rw [hq]
    go_wp2
    go_ret2
    exact ⟨rfl, rfl⟩
  clear hc
  go_enter Tryd.func15, Tryd.ntmps15
  go_wp2_with fail
  refine HR.out.mono ?_
  rintro e w' ⟨rfl, rfl⟩
  go_wp2
  go_ret
  exact ⟨rfl, rfl⟩
end
end Go.Proofs.YtihmbgdkllmkaaaDoor

/-
  Layer 14 (channel.go): Look, Drop, Push.
-/
namespace Go.Proofs.YtihmbgdkllmkaaaDoor
open Go.RowKit Go.Shelf
set_option maxRecDepth 100000
set_option linter.unusedVariables false
set_option linter.unusedSimpArgs false

set_option maxHeartbeats 1000000 in
theorem look1_c (w : World) (g : Nat) (es : List ME) (i : Int) (bi : Nat) (h : QAt w g es) (hin : ∀ e ∈ es, e.v.In w ∧ e.v.nodes ≤ 256) (hb : w.cell? ⟨bi, 0, none⟩ = some (.int .i64 i)) : Calls Tryd.prog 43 #[.pointer (some ⟨g, 0, none⟩), .pointer (some ⟨bi, 0, none⟩)] w (AtTold (es.map ME.plain) i w) := by
  have HQ := Lib.hid (fun W (hW : Touch [] w W) => h.touch hW)
  have HEI := Lib.hid (fun W (hW : Touch [] w W) x (hx : x ∈ es) => (And.intro ((hin x hx).1.touch0 hW) (hin x hx).2 : x.v.In W ∧ x.v.nodes ≤ 256))
  have hbl : bi < w.heap.size := World.block_lt_of_cell? _ _ hb
  have hbl1 : bi < w.heap.size + 1 := by omega
  clear h hin
  go_enter Tryd.func43, Tryd.ntmps43
  go_wp2_with fail
  refine wp_calls_name ?_
  intro w1 hw1
  have HL1 := Lib.hid ((Led.nil' w).al1 hw1)
  simp only [List.nil_append] at HL1
  obtain ⟨b3, hb3⟩ : ∃ b, w.heap.size = b := ⟨_, rfl⟩
  rw [hb3] at HL1 ⊢
  clear hw1 hb3 hb hbl hbl1
  refine (At_q w1 g es i (HQ.out _ HL1.out.tch) (HEI.out _ HL1.out.tch)).mono ?_
  rintro e w2 ⟨x, cc, rfl, hR, hxin, hxnew, ht⟩
  have HL2 := Lib.hid (HL1.out.valsNew (vs := [x.v]) ht (by simpa using hxin) (by simpa using hxnew))
  have HR := Lib.hid hR
  have HXN : Hid (∀ k ∈ x.v.blocks, w.heap.size ≤ k) := fun k hk => Nat.le_trans HL1.out.size (hxnew k hk)
  clear hR hxin hxnew ht HL1
  simp only [List.nil_append, List.cons_append] at HL2
  simp only [ent_eq]
  obtain ⟨r0, r1, r2, r3, r4, r5, r6, ⟨f0, f1, f2, f3, f4, f5, f6⟩, zr, _, _⟩ := HL2.out.c7 0 rfl
  go_wp2
  have HL3 := Lib.hid (HL2.out.setEnt 0 rfl x.sync x.thread x.branch x.flag x.v.kind x.v.num (.slice x.v.addr x.v.parts.length x.v.cap))
  simp only [List.set_cons_zero, List.set_cons_succ] at HL3
  obtain ⟨s0, s1, s2, s3, s4, s5, s6, _⟩ := HL3.out.c7 0 rfl
  refine bodyPost_ret (v := .tuple #[x.val, .bool cc]) (by simp [results, Tryd.results43, go_sem, s0, s1, s2, s3, s4, s5, s6, ent_eq]) rfl ?_
  exact ⟨x, cc, rfl, HR.out, HL3.out.valsIn 1 rfl _ (by simp), HXN.out, HL3.out.tch⟩
set_option maxHeartbeats 1000000 in
theorem readE_look (w : World) (c : Nat) (a : Int) (M q1 q2 : Nat) (hc : ChAt w c a M q1 q2) (s : Int) (g : Nat) (es : List ME) (i : Int) (bi : Nat) (hq : qOf s q1 q2 = some ⟨g, 0, none⟩) (h : QAt w g es) (hin : ∀ e ∈ es, e.v.In w ∧ e.v.nodes ≤ 256) (hb : w.cell? ⟨bi, 0, none⟩ = some (.int .i64 i)) :
    Calls Tryd.prog 34 #[.pointer (some ⟨c, 0, none⟩), .int .i64 s, .func (.func 43) #[] #[.pointer (some ⟨bi, 0, none⟩)]] w (AtTold (es.map ME.plain) i w) := by
  have HC := Lib.hid (fun W (hW : Touch [] w W) => hc.touch hW)
  have HLK := Lib.hid (fun W (hW : Touch [] w W) => look1_c W g es i bi (h.touch hW) (fun x hx => ⟨(hin x hx).1.touch0 hW, (hin x hx).2⟩) (hW.cellOf hb))
  clear h hin hb hc
  go_enter Tryd.func34, Tryd.ntmps34
  go_wp2_with fail
  refine wp_calls_name ?_
  intro w1 hw1
  have HL1 := Lib.hid ((Led.nil' w).al1 hw1)
  simp only [List.nil_append] at HL1
  obtain ⟨b6, hb6⟩ : ∃ b, w.heap.size = b := ⟨_, rfl⟩
  rw [hb6] at HL1 ⊢
  clear hw1 hb6
  go_wp2_with fail
  refine (queue_c _ _ _ _ _ _ (HC.out _ HL1.out.tch) s).mono ?_
  rintro e w' ⟨rfl, rfl⟩
  rw [hq]
  go_wp2_with fail
  refine (HLK.out _ HL1.out.tch).mono ?_
  rintro e w2 ⟨x, cc, rfl, hR, hxin, hxnew, ht⟩
  have HL2 := Lib.hid (HL1.out.valsNew (vs := [x.v]) ht (by simpa using hxin) (by simpa using hxnew))
  have HR := Lib.hid hR
  have HXN : Hid (∀ k ∈ x.v.blocks, w.heap.size ≤ k) := fun k hk => Nat.le_trans HL1.out.size (hxnew k hk)
  clear hR hxin hxnew ht HL1
  simp only [List.nil_append, List.cons_append] at HL2
  simp only [ent_eq]
  obtain ⟨r0, r1, r2, r3, r4, r5, r6, ⟨f0, f1, f2, f3, f4, f5, f6⟩, zr, _, _⟩ := HL2.out.c7 0 rfl
  go_wp2
  have HL3 := Lib.hid (HL2.out.setEnt 0 rfl x.sync x.thread x.branch x.flag x.v.kind x.v.num (.slice x.v.addr x.v.parts.length x.v.cap))
  simp only [List.set_cons_zero, List.set_cons_succ] at HL3
  obtain ⟨s0, s1, s2, s3, s4, s5, s6, _⟩ := HL3.out.c7 0 rfl
  refine bodyPost_ret (v := .tuple #[x.val, .bool cc]) (by simp [results, Tryd.results34, go_sem, s0, s1, s2, s3, s4, s5, s6, ent_eq]) rfl ?_
  exact ⟨x, cc, rfl, HR.out, HL3.out.valsIn 1 rfl _ (by simp), HXN.out, HL3.out.tch⟩
set_option maxHeartbeats 1000000 in
theorem Look_ch (w : World) (c : Nat) (a : Int) (M q1 q2 : Nat) (hc : ChAt w c a M q1 q2) (s : Int) (g : Nat) (es : List ME) (i : Int) (hq : qOf s q1 q2 = some ⟨g, 0, none⟩) (h : QAt w g es) (hin : ∀ e ∈ es, e.v.In w ∧ e.v.nodes ≤ 256) :
    Calls Tryd.prog 16 #[.pointer (some ⟨c, 0, none⟩), .int .i64 s, .int .i64 i] w (AtTold (es.map ME.plain) i w) := by
  have HLK := Lib.hid (fun W (hW : Touch [] w W) bi (hb : W.cell? ⟨bi, 0, none⟩ = some (.int .i64 i)) => readE_look W c a M q1 q2 (hc.touch hW) s g es i bi hq (h.touch hW) (fun x hx => ⟨(hin x hx).1.touch0 hW, (hin x hx).2⟩) hb)
  clear h hin hc
  go_enter Tryd.func16, Tryd.ntmps16
  go_wp2_with fail
  refine wp_calls_name ?_
  intro w1 hw1
  have HL1 := Lib.hid ((Led.nil' w).al2 hw1)
  simp only [List.nil_append, List.cons_append] at HL1
  obtain ⟨b6, hb6⟩ : ∃ b, w.heap.size + 1 = b := ⟨_, rfl⟩
  rw [hb6] at HL1 ⊢
  obtain ⟨b5, hb5⟩ : ∃ b, w.heap.size = b := ⟨_, rfl⟩
  rw [hb5] at HL1 ⊢
  clear hw1 hb6 hb5
  refine (HLK.out _ HL1.out.tch b5 ((HL1.out.box 0 rfl).cell 0)).mono ?_
  rintro e w2 ⟨x, cc, rfl, hR, hxin, hxnew, ht⟩
  have HL2 := Lib.hid (HL1.out.valsNew (vs := [x.v]) ht (by simpa using hxin) (by simpa using hxnew))
  have HR := Lib.hid hR
  have HXN : Hid (∀ k ∈ x.v.blocks, w.heap.size ≤ k) := fun k hk => Nat.le_trans HL1.out.size (hxnew k hk)
  clear hR hxin hxnew ht HL1
  simp only [List.nil_append, List.cons_append] at HL2
  simp only [ent_eq]
  obtain ⟨r0, r1, r2, r3, r4, r5, r6, ⟨f0, f1, f2, f3, f4, f5, f6⟩, zr, _, _⟩ := HL2.out.c7 1 rfl
  go_wp2
  have HL3 := Lib.hid (HL2.out.setEnt 1 rfl x.sync x.thread x.branch x.flag x.v.kind x.v.num (.slice x.v.addr x.v.parts.length x.v.cap))
  simp only [List.set_cons_zero, List.set_cons_succ] at HL3
  obtain ⟨s0, s1, s2, s3, s4, s5, s6, _⟩ := HL3.out.c7 1 rfl
  refine bodyPost_ret (v := .tuple #[x.val, .bool cc]) (by simp [results, Tryd.results16, go_sem, s0, s1, s2, s3, s4, s5, s6, ent_eq]) rfl ?_
  exact ⟨x, cc, rfl, HR.out, HL3.out.valsIn 2 rfl _ (by simp), HXN.out, HL3.out.tch⟩
theorem post_nameQ {P : Program} {fn : Func} {R : Ending → World → Prop} {ex : Exit} {a : Act} {W : World} (h : ∀ w2, W = w2 → bodyPost P fn R ex a w2) : bodyPost P fn R ex a W := h W rfl
set_option maxHeartbeats 1000000 in
/-- A side that there is not, whatever would be read of it. -/
theorem readE_no (w : World) (c : Nat) (a : Int) (M q1 q2 : Nat) (hc : ChAt w c a M q1 q2) (s : Int) (hq : qOf s q1 q2 = none) (fn : Fn) (xs ys : Array Value) :
    Calls Tryd.prog 34 #[.pointer (some ⟨c, 0, none⟩), .int .i64 s, .func fn xs ys] w fun e w' => e = .returned (.tuple #[ME.zero.val, .bool false]) ∧ Touch [] w w' := by
  have HC := Lib.hid (fun W (hW : Touch [] w W) => hc.touch hW)
  clear hc
  go_enter Tryd.func34, Tryd.ntmps34
  go_wp2_with fail
  refine wp_calls_name ?_
  intro w1 hw1
  have HL1 := Lib.hid ((Led.nil' w).al1 hw1)
  simp only [List.nil_append] at HL1
  obtain ⟨b6, hb6⟩ : ∃ b, w.heap.size = b := ⟨_, rfl⟩
  rw [hb6] at HL1 ⊢
  clear hw1 hb6
  go_wp2_with fail
  refine (queue_c _ _ _ _ _ _ (HC.out _ HL1.out.tch) s).mono ?_
  rintro e w' ⟨rfl, rfl⟩
  rw [hq]
  obtain ⟨r0, r1, r2, r3, r4, r5, r6, ⟨f0, f1, f2, f3, f4, f5, f6⟩, zr, _, _⟩ := HL1.out.c7 0 rfl
  have m1 : b6 ≠ w1.heap.size := by omega
  have m2 := Ne.symm m1
  go_wp2
  refine post_nameQ ?_
  intro w2 hw2
  have HL3 := Lib.hid (((HL1.out.setEnt 0 rfl 0 0 0 0 0 0 (.slice none 0 0)).alloc 42 #[.int .i64 0, .int .i64 0, .int .i64 0, .int .i64 0, .int .i64 0, .int .i64 0, .slice none 0 0]).via hw2)
  simp only [List.set_cons_zero, List.set_cons_succ, List.cons_append, List.nil_append] at HL3
  obtain ⟨s0, s1, s2, s3, s4, s5, s6, _⟩ := HL3.out.c7 0 rfl
  have hzv : ME.zero.val = .agg #[.int .i64 0, .int .i64 0, .int .i64 0, .int .i64 0, .int .i64 0, .int .i64 0, .slice none 0 0] := rfl
  refine bodyPost_ret (v := .tuple #[.agg #[.int .i64 0, .int .i64 0, .int .i64 0, .int .i64 0, .int .i64 0, .int .i64 0, .slice none 0 0], .bool false]) (by simp [results, Tryd.results34, go_sem, s0, s1, s2, s3, s4, s5, s6]) rfl ?_
  exact ⟨by rw [hzv], HL3.out.tch⟩
set_option maxHeartbeats 1000000 in
theorem Look_ch_no (w : World) (c : Nat) (a : Int) (M q1 q2 : Nat) (hc : ChAt w c a M q1 q2) (s : Int) (i : Int) (hq : qOf s q1 q2 = none) :
    Calls Tryd.prog 16 #[.pointer (some ⟨c, 0, none⟩), .int .i64 s, .int .i64 i] w fun e w' => e = .returned (.tuple #[ME.zero.val, .bool false]) ∧ Touch [] w w' := by
  have HLK := Lib.hid (fun W (hW : Touch [] w W) fn xs ys => readE_no W c a M q1 q2 (hc.touch hW) s hq fn xs ys)
  clear hc
  go_enter Tryd.func16, Tryd.ntmps16
  go_wp2_with fail
  refine wp_calls_name ?_
  intro w1 hw1
  have HL1 := Lib.hid ((Led.nil' w).al2 hw1)
  simp only [List.nil_append, List.cons_append] at HL1
  obtain ⟨b6, hb6⟩ : ∃ b, w.heap.size + 1 = b := ⟨_, rfl⟩
  rw [hb6] at HL1 ⊢
  obtain ⟨b5, hb5⟩ : ∃ b, w.heap.size = b := ⟨_, rfl⟩
  rw [hb5] at HL1 ⊢
  clear hw1 hb6 hb5
  refine (HLK.out _ HL1.out.tch _ _ _).mono ?_
  rintro e w2 ⟨rfl, ht⟩
  have HL2 := Lib.hid (HL1.out.touch ht)
  clear ht HL1
  have hzv : ME.zero.val = .agg #[.int .i64 0, .int .i64 0, .int .i64 0, .int .i64 0, .int .i64 0, .int .i64 0, .slice none 0 0] := rfl
  rw [hzv]
  obtain ⟨r0, r1, r2, r3, r4, r5, r6, ⟨f0, f1, f2, f3, f4, f5, f6⟩, zr, _, _⟩ := HL2.out.c7 1 rfl
  go_wp2
  have HL3 := Lib.hid (HL2.out.setEnt 1 rfl 0 0 0 0 0 0 (.slice none 0 0))
  simp only [List.set_cons_zero, List.set_cons_succ] at HL3
  obtain ⟨s0, s1, s2, s3, s4, s5, s6, _⟩ := HL3.out.c7 1 rfl
  refine bodyPost_ret (v := .tuple #[.agg #[.int .i64 0, .int .i64 0, .int .i64 0, .int .i64 0, .int .i64 0, .int .i64 0, .slice none 0 0], .bool false]) (by simp [results, Tryd.results16, go_sem, s0, s1, s2, s3, s4, s5, s6]) rfl ?_
  exact ⟨rfl, HL3.out.tch⟩
set_option maxHeartbeats 1000000 in
theorem Drop_ch_no (w : World) (c : Nat) (a : Int) (M q1 q2 : Nat) (hc : ChAt w c a M q1 q2) (s : Int) (i : Int) (hq : qOf s q1 q2 = none) :
    Calls Tryd.prog 12 #[.pointer (some ⟨c, 0, none⟩), .int .i64 s, .int .i64 i] w fun e w' => e = .returned (.tuple #[ME.zero.val, .bool false]) ∧ Touch [] w w' := by
  have HLK := Lib.hid (fun W (hW : Touch [] w W) fn xs ys => readE_no W c a M q1 q2 (hc.touch hW) s hq fn xs ys)
  clear hc
  go_enter Tryd.func12, Tryd.ntmps12
  go_wp2_with fail
  refine wp_calls_name ?_
  intro w1 hw1
  have HL1 := Lib.hid ((Led.nil' w).al2 hw1)
  simp only [List.nil_append, List.cons_append] at HL1
  obtain ⟨b6, hb6⟩ : ∃ b, w.heap.size + 1 = b := ⟨_, rfl⟩
  rw [hb6] at HL1 ⊢
  obtain ⟨b5, hb5⟩ : ∃ b, w.heap.size = b := ⟨_, rfl⟩
  rw [hb5] at HL1 ⊢
  clear hw1 hb6 hb5
  refine (HLK.out _ HL1.out.tch _ _ _).mono ?_
  rintro e w2 ⟨rfl, ht⟩
  have HL2 := Lib.hid (HL1.out.touch ht)
  clear ht HL1
  have hzv : ME.zero.val = .agg #[.int .i64 0, .int .i64 0, .int .i64 0, .int .i64 0, .int .i64 0, .int .i64 0, .slice none 0 0] := rfl
  rw [hzv]
  obtain ⟨r0, r1, r2, r3, r4, r5, r6, ⟨f0, f1, f2, f3, f4, f5, f6⟩, zr, _, _⟩ := HL2.out.c7 1 rfl
  go_wp2
  have HL3 := Lib.hid (HL2.out.setEnt 1 rfl 0 0 0 0 0 0 (.slice none 0 0))
  simp only [List.set_cons_zero, List.set_cons_succ] at HL3
  obtain ⟨s0, s1, s2, s3, s4, s5, s6, _⟩ := HL3.out.c7 1 rfl
  refine bodyPost_ret (v := .tuple #[.agg #[.int .i64 0, .int .i64 0, .int .i64 0, .int .i64 0, .int .i64 0, .int .i64 0, .slice none 0 0], .bool false]) (by simp [results, Tryd.results12, go_sem, s0, s1, s2, s3, s4, s5, s6]) rfl ?_
  exact ⟨rfl, HL3.out.tch⟩
/-- What Drop tells of a queue alone. -/
def DroppedC (T : List Nat) (w : World) (g : Nat) (es : List ME) (z : Int) (e : Ending) (w' : World) : Prop := ∃ y c rest, e = .returned (.tuple #[y.val, .bool c]) ∧ AtRef es z y c ∧ Led T w w' (queueT g (if c = true then es.eraseIdx z.toNat else es) :: rest)
set_option maxHeartbeats 1000000 in
theorem drop1_c (T : List Nat) (w : World) (g : Nat) (es : List ME) (z : Int) (bi : Nat) (h : Led T w w [queueT g es]) (hes : es.length ≤ 4096) (hb : w.cell? ⟨bi, 0, none⟩ = some (.int .i64 z)) : Calls Tryd.prog 35 #[.pointer (some ⟨g, 0, none⟩), .pointer (some ⟨bi, 0, none⟩)] w (DroppedC T w g es z) := by
  have HL0 := Lib.hid h
  have hbl : bi < w.heap.size := World.block_lt_of_cell? _ _ hb
  have hbl1 : bi < w.heap.size + 1 := by omega
  clear h
  go_enter Tryd.func35, Tryd.ntmps35
  go_wp2_with fail
  refine wp_calls_name ?_
  intro w1 hw1
  have HL1 := Lib.hid (HL0.out.al1 hw1)
  simp only [List.nil_append, List.cons_append] at HL1
  obtain ⟨b3, hb3⟩ : ∃ b, w.heap.size = b := ⟨_, rfl⟩
  rw [hb3] at HL1 ⊢
  clear hw1 hb3 hb hbl hbl1 HL0
  refine (HL1.out.qDropS 0 rfl z (by omega)).mono ?_
  rintro e w2 ⟨y, cc, rfl, hR, hL⟩
  have HR := Lib.hid hR
  have HL2 := Lib.hid hL
  clear hR hL HL1
  simp only [List.set_cons_zero, List.cons_append, List.nil_append] at HL2
  simp only [ent_eq]
  obtain ⟨r0, r1, r2, r3, r4, r5, r6, ⟨f0, f1, f2, f3, f4, f5, f6⟩, zr, _, _⟩ := HL2.out.c7 1 rfl
  go_wp2
  have HL3 := Lib.hid (HL2.out.setEnt 1 rfl y.sync y.thread y.branch y.flag y.v.kind y.v.num (.slice y.v.addr y.v.parts.length y.v.cap))
  simp only [List.set_cons_zero, List.set_cons_succ] at HL3
  obtain ⟨s0, s1, s2, s3, s4, s5, s6, _⟩ := HL3.out.c7 1 rfl
  refine bodyPost_ret (v := .tuple #[y.val, .bool cc]) (by simp [results, Tryd.results35, go_sem, s0, s1, s2, s3, s4, s5, s6, ent_eq]) rfl ?_
  exact ⟨y, cc, _, rfl, HR.out, HL3.out⟩
set_option maxHeartbeats 1000000 in
theorem readE_drop (T : List Nat) (w : World) (c : Nat) (a : Int) (M q1 q2 : Nat) (hc : ChAt w c a M q1 q2) (s : Int) (g : Nat) (es : List ME) (z : Int) (bi : Nat) (hq : qOf s q1 q2 = some ⟨g, 0, none⟩) (h : Led T w w [queueT g es]) (hes : es.length ≤ 4096) (hb : w.cell? ⟨bi, 0, none⟩ = some (.int .i64 z)) :
    Calls Tryd.prog 34 #[.pointer (some ⟨c, 0, none⟩), .int .i64 s, .func (.func 35) #[] #[.pointer (some ⟨bi, 0, none⟩)]] w (DroppedC T w g es z) := by
  have HC := Lib.hid (fun W (hW : Touch [] w W) => hc.touch hW)
  have HBI := Lib.hid (fun W (hW : Touch [] w W) => hW.cellOf hb)
  have HL0 := Lib.hid h
  clear h hb hc
  go_enter Tryd.func34, Tryd.ntmps34
  go_wp2_with fail
  refine wp_calls_name ?_
  intro w1 hw1
  have HT1 : Hid (Touch [] w w1) := hw1 ▸ (Touch.refl [] w).alloc _
  have HL1 := Lib.hid (HL0.out.al1 hw1)
  simp only [List.nil_append, List.cons_append] at HL1
  obtain ⟨b6, hb6⟩ : ∃ b, w.heap.size = b := ⟨_, rfl⟩
  rw [hb6] at HL1 ⊢
  clear hw1 hb6 HL0
  go_wp2_with fail
  refine (queue_c _ _ _ _ _ _ (HC.out _ HT1.out) s).mono ?_
  rintro e w' ⟨rfl, rfl⟩
  rw [hq]
  obtain ⟨T', hF, hbk⟩ := HL1.out.frame1 0 rfl
  go_wp2_with fail
  refine (drop1_c T' w1 g es z bi hF hes (HBI.out _ HT1.out)).mono ?_
  rintro e w2 ⟨y, cc, rest, rfl, hR, hL'⟩
  have hL := hbk _ _ _ hL'
  clear hL' hbk hF
  have HR := Lib.hid hR
  have HL2 := Lib.hid hL
  clear hR hL HL1
  simp only [List.set_cons_zero, List.cons_append, List.nil_append] at HL2
  simp only [ent_eq]
  obtain ⟨r0, r1, r2, r3, r4, r5, r6, ⟨f0, f1, f2, f3, f4, f5, f6⟩, zr, _, _⟩ := HL2.out.c7 1 rfl
  go_wp2
  have HL3 := Lib.hid (HL2.out.setEnt 1 rfl y.sync y.thread y.branch y.flag y.v.kind y.v.num (.slice y.v.addr y.v.parts.length y.v.cap))
  simp only [List.set_cons_zero, List.set_cons_succ] at HL3
  obtain ⟨s0, s1, s2, s3, s4, s5, s6, _⟩ := HL3.out.c7 1 rfl
  refine bodyPost_ret (v := .tuple #[y.val, .bool cc]) (by simp [results, Tryd.results34, go_sem, s0, s1, s2, s3, s4, s5, s6, ent_eq]) rfl ?_
  exact ⟨y, cc, _, rfl, HR.out, HL3.out⟩
set_option maxHeartbeats 1000000 in
theorem Drop_chF (T : List Nat) (w : World) (c : Nat) (a : Int) (M q1 q2 : Nat) (hc : ChAt w c a M q1 q2) (s : Int) (g : Nat) (es : List ME) (z : Int) (hq : qOf s q1 q2 = some ⟨g, 0, none⟩) (h : Led T w w [queueT g es]) (hes : es.length ≤ 4096) :
    Calls Tryd.prog 12 #[.pointer (some ⟨c, 0, none⟩), .int .i64 s, .int .i64 z] w (DroppedC T w g es z) := by
  have HC := Lib.hid (fun W (hW : Touch [] w W) => hc.touch hW)
  have HL0 := Lib.hid h
  clear h hc
  go_enter Tryd.func12, Tryd.ntmps12
  go_wp2_with fail
  refine wp_calls_name ?_
  intro w1 hw1
  have HT1 : Hid (Touch [] w w1) := hw1 ▸ ((Touch.refl [] w).alloc _).alloc _
  have HL1 := Lib.hid (HL0.out.al2 hw1)
  simp only [List.nil_append, List.cons_append] at HL1
  obtain ⟨b6, hb6⟩ : ∃ b, w.heap.size + 1 = b := ⟨_, rfl⟩
  rw [hb6] at HL1 ⊢
  obtain ⟨b5, hb5⟩ : ∃ b, w.heap.size = b := ⟨_, rfl⟩
  rw [hb5] at HL1 ⊢
  clear hw1 hb6 hb5 HL0
  obtain ⟨T', hF, hbk⟩ := HL1.out.frame1 0 rfl
  refine (readE_drop T' w1 c a M q1 q2 (HC.out _ HT1.out) s g es z b5 hq hF hes ((HL1.out.box 1 rfl).cell 0)).mono ?_
  rintro e w2 ⟨y, cc, rest, rfl, hR, hL'⟩
  have hL := hbk _ _ _ hL'
  clear hL' hbk hF
  have HR := Lib.hid hR
  have HL2 := Lib.hid hL
  clear hR hL HL1
  simp only [List.set_cons_zero, List.cons_append, List.nil_append] at HL2
  simp only [ent_eq]
  obtain ⟨r0, r1, r2, r3, r4, r5, r6, ⟨f0, f1, f2, f3, f4, f5, f6⟩, zr, _, _⟩ := HL2.out.c7 2 rfl
  go_wp2
  have HL3 := Lib.hid (HL2.out.setEnt 2 rfl y.sync y.thread y.branch y.flag y.v.kind y.v.num (.slice y.v.addr y.v.parts.length y.v.cap))
  simp only [List.set_cons_zero, List.set_cons_succ] at HL3
  obtain ⟨s0, s1, s2, s3, s4, s5, s6, _⟩ := HL3.out.c7 2 rfl
  refine bodyPost_ret (v := .tuple #[y.val, .bool cc]) (by simp [results, Tryd.results12, go_sem, s0, s1, s2, s3, s4, s5, s6, ent_eq]) rfl ?_
  exact ⟨y, cc, _, rfl, HR.out, HL3.out⟩
/-- Drop, in a greater ledger. -/
theorem Led.chDrop {T : List Nat} {w0 w : World} {l : List Thing} {c : Nat} {a : Int} {M q1 q2 : Nat} {s : Int} {g : Nat} {es : List ME} (h : Led T w0 w l) (i : Nat) (hi : l[i]? = some (queueT g es)) (hc : ChAt w c a M q1 q2) (hq : qOf s q1 q2 = some ⟨g, 0, none⟩) (hes : es.length ≤ 4096) (z : Int) :
    Calls Tryd.prog 12 #[.pointer (some ⟨c, 0, none⟩), .int .i64 s, .int .i64 z] w fun e w' => ∃ y b, e = .returned (.tuple #[y.val, .bool b]) ∧ AtRef es z y b ∧ Led T w0 w' (l.set i (queueT g (if b = true then es.eraseIdx z.toNat else es))) := by
  obtain ⟨T', hF, hbk⟩ := h.frame1 i hi
  refine (Drop_chF T' w c a M q1 q2 hc s g es z hq hF hes).mono ?_
  rintro e w2 ⟨y, cc, rest, rfl, hR, hL'⟩
  exact ⟨y, cc, rfl, hR, hbk _ _ _ hL'⟩
set_option maxHeartbeats 1000000 in
theorem Push_chF (T : List Nat) (w : World) (c : Nat) (a : Int) (M q1 q2 : Nat) (hc : ChAt w c a M q1 q2) (s : Int) (g : Nat) (es : List ME) (P : World → Prop) (x : ME) (hq : qOf s q1 q2 = some ⟨g, 0, none⟩) (h : Led T w w [queueT g es, stillT P]) (hP : ∀ W, P W → x.v.In W) (hes : es.length ≤ 4096) :
    Calls Tryd.prog 13 #[.pointer (some ⟨c, 0, none⟩), .int .i64 s, x.val] w fun e w' => ∃ (k : Nat) (err : Int) (ys : List ME) (rest : List Thing), e = .returned (.int .i64 err) ∧ PushR es.length [x.plain] k err ∧ ys.map ME.plain = [x.plain].take k ∧ Led T w w' (queueT g (es ++ ys) :: stillT (fun W => P W ∧ ∀ y ∈ ys, y.v.In W) :: rest) := by
  have HP := Lib.hid hP
  have HC := Lib.hid (fun W (hW : Touch [] w W) => hc.touch hW)
  have HL0 := Lib.hid h
  clear h hP hc
  simp only [ent_eq]
  go_enter Tryd.func13, Tryd.ntmps13
  go_wp2
  refine wp_scope_fwd 0 rfl ?_
  go_wp2_with fail
  refine wp_calls_name ?_
  intro w1 hw1
  have HT1 : Hid (Touch [] w w1) := hw1 ▸ (Touch.refl [] w).alloc _
  have HL1 := Lib.hid (HL0.out.al1 hw1)
  simp only [List.nil_append, List.cons_append] at HL1
  obtain ⟨b5, hb5⟩ : ∃ b, w.heap.size = b := ⟨_, rfl⟩
  rw [hb5] at HL1 ⊢
  clear hw1 hb5 HL0
  refine (queue_c _ _ _ _ _ _ (HC.out _ HT1.out) s).mono ?_
  rintro e w' ⟨rfl, rfl⟩
  rw [hq]
  go_wp2_with fail
  refine (chnone_no _ _ _ _ _ _ (HC.out _ HT1.out)).mono ?_
  rintro e w' ⟨rfl, rfl⟩
  obtain ⟨x0, x1, x2, x3, x4, x5, x6, _, hl3, _, _⟩ := HL1.out.c7 2 rfl
  have HL2 := Lib.hid (HL1.out.alloc 42 #[.int .i64 x.sync, .int .i64 x.thread, .int .i64 x.branch, .int .i64 x.flag, .int .i64 x.v.kind, .int .i64 x.v.num, .slice x.v.addr x.v.parts.length x.v.cap])
  simp only [List.nil_append, List.cons_append] at HL2
  have HPU := Lib.hid (HL2.out.qPushS (xs := [x]) (a := some ⟨w1.heap.size, 0, none⟩) (cap := 1) 0 1 rfl rfl (by decide) (fun W hW => ⟨ents_box rfl (hW 3 _ (by decide) rfl), fun y hy => by
    simp at hy; subst hy
    obtain ⟨f, _, hs⟩ := hW 1 (stillT P) (by decide) rfl
    exact HP.out W (hs W (fun _ _ => rfl))⟩) (by simp) hes)
  simp only [List.length_cons, List.length_nil, Nat.reduceAdd] at HPU
  go_wp2_with fail
  refine HPU.out.mono ?_
  rintro e w4 ⟨k, err, ys, rfl, hR, hp, hL⟩
  have HL4 := Lib.hid hL
  simp only [List.set_cons_zero, List.set_cons_succ] at HL4
  have HR := Lib.hid hR
  have HPY := Lib.hid hp
  clear hL hR hp HPU HL2 HL1 x0 x1 x2 x3 x4 x5 x6 hl3
  go_wp2
  go_step3
  go_wp2
  refine jump_ret ?_
  go_ret
  exact ⟨k, err, ys, _, rfl, HR.out, HPY.out, HL4.out⟩
theorem Led.chPush {T : List Nat} {w0 w : World} {l : List Thing} {c : Nat} {a : Int} {M q1 q2 : Nat} {s : Int} {g : Nat} {es : List ME} {P : World → Prop} (h : Led T w0 w l) (i j : Nat) (hi : l[i]? = some (queueT g es)) (hj : l[j]? = some (stillT P)) (hij : i ≠ j) (hc : ChAt w c a M q1 q2) (hq : qOf s q1 q2 = some ⟨g, 0, none⟩) (x : ME) (hP : ∀ W, P W → x.v.In W) (hes : es.length ≤ 4096) :
    Calls Tryd.prog 13 #[.pointer (some ⟨c, 0, none⟩), .int .i64 s, x.val] w fun e w' => ∃ (k : Nat) (err : Int) (ys : List ME), e = .returned (.int .i64 err) ∧ PushR es.length [x.plain] k err ∧ ys.map ME.plain = [x.plain].take k ∧ Led T w0 w' ((l.set i (queueT g (es ++ ys))).set j (stillT (fun W => P W ∧ ∀ y ∈ ys, y.v.In W))) := by
  obtain ⟨T', hF, hbk⟩ := h.frame2 i j hi hj hij
  refine (Push_chF T' w c a M q1 q2 hc s g es P x hq hF hP hes).mono ?_
  rintro e w2 ⟨k, err, ys, rest, rfl, hR, hp, hL⟩
  exact ⟨k, err, ys, rfl, hR, hp, hbk _ _ _ _ hL⟩
set_option maxHeartbeats 1000000 in
theorem Push_ch_no (w : World) (c : Nat) (a : Int) (M q1 q2 : Nat) (hc : ChAt w c a M q1 q2) (s : Int) (x : ME) (hq : qOf s q1 q2 = none) :
    Calls Tryd.prog 13 #[.pointer (some ⟨c, 0, none⟩), .int .i64 s, x.val] w fun e w' => e = .returned (.int .i64 2) ∧ Touch [] w w' := by
  have HC := Lib.hid (fun W (hW : Touch [] w W) => hc.touch hW)
  clear hc
  simp only [ent_eq]
  go_enter Tryd.func13, Tryd.ntmps13
  go_wp2
  refine wp_scope_fwd 0 rfl ?_
  go_wp2_with fail
  refine wp_calls_name ?_
  intro w1 hw1
  have HT1 : Hid (Touch [] w w1) := hw1 ▸ (Touch.refl [] w).alloc _
  clear hw1
  refine (queue_c _ _ _ _ _ _ (HC.out _ HT1.out) s).mono ?_
  rintro e w' ⟨rfl, rfl⟩
  rw [hq]
  go_wp2_with fail
  refine (chnone_no _ _ _ _ _ _ (HC.out _ HT1.out)).mono ?_
  rintro e w' ⟨rfl, rfl⟩
  go_wp2
  go_step3
  refine ⟨rfl, ?_⟩
  go_wp2
  refine noGoto_ret' ?_
  go_ret
  exact ⟨rfl, HT1.out⟩
end Go.Proofs.YtihmbgdkllmkaaaDoor

/-
  No arena (nil, or one that New did not make): what each function of layers 1 and 3 tells of it.
-/
namespace Go.Proofs.YtihmbgdkllmkaaaDoor
open Go.RowKit Go.Shelf
set_option maxRecDepth 100000
set_option linter.unusedVariables false
set_option linter.unusedSimpArgs false
attribute [local go_sem] Oper.semAt_some

theorem NoAr.touch {w w' : World} {p : Value} {S : List Nat} (h : NoAr w p) (ht : Touch S w w') (hS : ∀ g, p = .pointer (some ⟨g, 0, none⟩) → g ∉ S) : NoAr w' p := by
  rcases h with h | ⟨g, h, hc⟩
  · exact .inl h
  · refine .inr ⟨g, h, ?_⟩
    rw [World.cell?_of_block (a := ⟨g, 2, none⟩) (ht.block g (World.block_lt_of_cell? w ⟨g, 2, none⟩ hc) (hS g h))]
    exact hc

section
variable (w : World) (pa : Option Addr) (h : NoAr w (.pointer pa))
include h
theorem Alloc_none (n : Int) : Calls Tryd.prog 47 #[.pointer pa, .int .i64 n] w fun e w' => e = .returned (.tuple #[.int .i64 0, .int .i64 1]) ∧ w = w' := by
  have H := Lib.hid h
  clear h
  go_enter Tryd.func47, Tryd.ntmps47
  go_wp2_with (go_at_call 33; refine (missing_yes _ _ H.out).mono ?_; rintro e w' ⟨rfl, rfl⟩)
  go_ret2
  exact ⟨rfl, rfl⟩
theorem Count_none : Calls Tryd.prog 11 #[.pointer pa] w fun e w' => e = .returned (.int .u64 0) ∧ w = w' := by
  have H := Lib.hid h
  clear h
  go_enter Tryd.func11, Tryd.ntmps11
  go_wp2_with (go_at_call 33; refine (missing_yes _ _ H.out).mono ?_; rintro e w' ⟨rfl, rfl⟩)
  go_ret
  exact ⟨rfl, rfl⟩
theorem Swap_none (at_ x y : Int) : Calls Tryd.prog 87 #[.pointer pa, .int .i64 at_, .int .u64 x, .int .u64 y] w fun e w' => e = .returned (.tuple #[.int .u64 0, .bool false, .int .i64 1]) ∧ Touch [] w w' := by
  have H := Lib.hid h
  clear h
  go_enter Tryd.func87, Tryd.ntmps87
  go_wp2_with fail
  refine (access_none _ _ _ _ _ (H.out.touch (((Touch.refl [] w).alloc _).alloc _) (by simp))).mono ?_
  rintro e w' ⟨rfl, rfl⟩
  go_wp2
  refine bodyPost_ret (v := .tuple #[.int .u64 0, .bool false, .int .i64 1]) (by simp [results, go_sem]) rfl ⟨rfl, ((Touch.refl [] w).alloc _).alloc _⟩
theorem SpinNew_none : Calls Tryd.prog 31 #[.pointer pa] w fun e w' => e = .returned (.tuple #[.int .i64 0, .int .i64 1]) ∧ w = w' := by
  have H := Lib.hid h
  clear h
  go_enter Tryd.func31, Tryd.ntmps31
  go_wp2_with fail
  refine (Alloc_none _ _ H.out _).mono ?_
  rintro e w' ⟨rfl, rfl⟩
  go_wp2
  go_ret2
  exact ⟨rfl, rfl⟩
theorem Try_none (at_ : Int) : Calls Tryd.prog 76 #[.pointer pa, .int .i64 at_] w fun e w' => e = .returned (.tuple #[.bool false, .int .i64 1]) ∧ Touch [] w w' := by
  have H := Lib.hid h
  clear h
  go_enter Tryd.func76, Tryd.ntmps76
  go_wp2_with fail
  refine (Swap_none _ _ H.out _ _ _).mono ?_
  rintro e w' ⟨rfl, ht⟩
  have HT := Lib.hid ht
  clear ht
  go_wp2
  go_ret2
  exact ⟨rfl, HT.out⟩
theorem Free_none (at_ : Int) : Calls Tryd.prog 77 #[.pointer pa, .int .i64 at_] w fun e w' => e = .returned (.int .i64 1) ∧ Touch [] w w' := by
  have H := Lib.hid h
  clear h
  go_enter Tryd.func77, Tryd.ntmps77
  go_wp2_with fail
  refine (Swap_none _ _ H.out _ _ _).mono ?_
  rintro e w' ⟨rfl, ht⟩
  have HT := Lib.hid ht
  clear ht
  go_wp2
  go_ret
  exact ⟨rfl, HT.out⟩
end
end Go.Proofs.YtihmbgdkllmkaaaDoor

/-
  Layer 14 (channel.go): what is told of no channel; Other.
-/
namespace Go.Proofs.YtihmbgdkllmkaaaDoor
open Go.RowKit Go.Shelf
set_option maxRecDepth 100000
set_option linter.unusedVariables false
set_option linter.unusedSimpArgs false

/-- No channel: none, or one without queues. -/
def NoCh (w : World) (p : Option Addr) : Prop := p = none ∨ ∃ b, p = some ⟨b, 0, none⟩ ∧ w.cell? ⟨b, 1, none⟩ = some (.map none)
theorem NoCh.touch {w w' : World} {p : Option Addr} (h : NoCh w p) (ht : Touch [] w w') : NoCh w' p := by
  rcases h with rfl | ⟨b, rfl, hb⟩
  · exact .inl rfl
  · exact .inr ⟨b, rfl, ht.cellOf hb⟩
theorem mapq_none (w : World) : (binOp .eql 73 (.map none) (.map none)).run Tryd.prog w = .ok (.bool true) w := by kernel_rfl
theorem chnone_yes (p : Option Addr) (w : World) (h : NoCh w p) : Calls Tryd.prog 38 #[.pointer p] w fun e w' => e = .returned (.bool true) ∧ w = w' := by
  have hmn := mapq_none w
  rcases h with rfl | ⟨b, rfl, hb⟩
  · go_enter Tryd.func38, Tryd.ntmps38
    go_wp2
    go_ret
    exact ⟨rfl, rfl⟩
  · have hbl : b < w.heap.size := World.block_lt_of_cell? _ _ hb
    go_enter Tryd.func38, Tryd.ntmps38
    go_wp2
    go_ret
    exact ⟨rfl, rfl⟩
section
variable (w : World) (p : Option Addr) (h : NoCh w p)
include h
theorem chLock_n (a : Option Addr) : Calls Tryd.prog 21 #[.pointer p, .pointer a] w fun e w' => e = .returned (.tuple #[.bool false, .int .i64 1]) ∧ w = w' := by
  have H := Lib.hid h
  clear h
  go_enter Tryd.func21, Tryd.ntmps21
  go_wp2_with fail
  refine (chnone_yes _ _ H.out).mono ?_
  rintro e w' ⟨rfl, rfl⟩
  go_wp2
  go_ret2
  exact ⟨rfl, rfl⟩
theorem chUnlock_n (a : Option Addr) : Calls Tryd.prog 22 #[.pointer p, .pointer a] w fun e w' => e = .returned (.int .i64 1) ∧ w = w' := by
  have H := Lib.hid h
  clear h
  go_enter Tryd.func22, Tryd.ntmps22
  go_wp2_with fail
  refine (chnone_yes _ _ H.out).mono ?_
  rintro e w' ⟨rfl, rfl⟩
  go_wp2
  go_ret
  exact ⟨rfl, rfl⟩
theorem chCell_n : Calls Tryd.prog 25 #[.pointer p] w fun e w' => e = .returned (.int .i64 0) ∧ w = w' := by
  have H := Lib.hid h
  clear h
  go_enter Tryd.func25, Tryd.ntmps25
  go_wp2_with fail
  refine (chnone_yes _ _ H.out).mono ?_
  rintro e w' ⟨rfl, rfl⟩
  go_wp2
  go_ret
  exact ⟨rfl, rfl⟩
theorem chCopy_n : Calls Tryd.prog 26 #[.pointer p] w fun e w' => e = .returned (.pointer none) ∧ w = w' := by
  have H := Lib.hid h
  clear h
  go_enter Tryd.func26, Tryd.ntmps26
  go_wp2_with fail
  refine (chnone_yes _ _ H.out).mono ?_
  rintro e w' ⟨rfl, rfl⟩
  go_wp2
  go_ret
  exact ⟨rfl, rfl⟩
theorem queue_n (s : Int) : Calls Tryd.prog 37 #[.pointer p, .int .i64 s] w fun e w' => e = .returned (.pointer none) ∧ w = w' := by
  have H := Lib.hid h
  clear h
  go_enter Tryd.func37, Tryd.ntmps37
  go_wp2_with fail
  refine (chnone_yes _ _ H.out).mono ?_
  rintro e w' ⟨rfl, rfl⟩
  go_wp2
  go_ret
  exact ⟨rfl, rfl⟩
theorem chAll_n (s : Int) : Calls Tryd.prog 24 #[.pointer p, .int .i64 s] w (AllTold [] w) := by
  have H := Lib.hid (fun W (hW : Touch [] w W) => h.touch hW)
  clear h
  go_enter Tryd.func24, Tryd.ntmps24
  go_wp2_with fail
  refine (queue_n _ _ (H.out _ (Touch.refl [] w)) s).mono ?_
  rintro e w' ⟨rfl, rfl⟩
  go_wp2_with fail
  refine (All_n w none (.inl rfl)).mono ?_
  rintro e w' ⟨bx, rfl, hL⟩
  have HL := Lib.hid hL
  clear hL
  go_wp2
  go_ret
  exact ⟨bx, none, 0, [], rfl, rfl, HL.out⟩
theorem chLen_n (s : Int) : Calls Tryd.prog 15 #[.pointer p, .int .i64 s] w fun e w' => e = .returned (.int .i64 0) ∧ w = w' := by
  have H := Lib.hid (fun W (hW : Touch [] w W) => h.touch hW)
  have HR : Hid (Calls Tryd.prog 40 #[.pointer p, .int .i64 s, .func (.func 41) #[] #[]] w fun e w' => e = .returned (.tuple #[.int .i64 0, .bool false]) ∧ w = w') := by
    unfold Hid
    go_enter Tryd.func40, Tryd.ntmps40
    go_wp2_with fail
    refine (queue_n _ _ (H.out _ (Touch.refl [] w)) s).mono ?_
    rintro e w' ⟨rfl, rfl⟩
    go_wp2
    go_ret2
    exact ⟨rfl, rfl⟩
  clear h
  go_enter Tryd.func15, Tryd.ntmps15
  go_wp2_with fail
  refine HR.out.mono ?_
  rintro e w' ⟨rfl, rfl⟩
  go_wp2
  go_ret
  exact ⟨rfl, rfl⟩
set_option maxHeartbeats 1000000 in
theorem readE_n (s : Int) (fn : Fn) (xs ys : Array Value) :
    Calls Tryd.prog 34 #[.pointer p, .int .i64 s, .func fn xs ys] w fun e w' => e = .returned (.tuple #[ME.zero.val, .bool false]) ∧ Touch [] w w' := by
  have H := Lib.hid (fun W (hW : Touch [] w W) => h.touch hW)
  clear h
  go_enter Tryd.func34, Tryd.ntmps34
  go_wp2_with fail
  refine wp_calls_name ?_
  intro w1 hw1
  have HL1 := Lib.hid ((Led.nil' w).al1 hw1)
  simp only [List.nil_append] at HL1
  obtain ⟨b6, hb6⟩ : ∃ b, w.heap.size = b := ⟨_, rfl⟩
  rw [hb6] at HL1 ⊢
  clear hw1 hb6
  go_wp2_with fail
  refine (queue_n _ _ (H.out _ HL1.out.tch) s).mono ?_
  rintro e w' ⟨rfl, rfl⟩
  obtain ⟨r0, r1, r2, r3, r4, r5, r6, ⟨f0, f1, f2, f3, f4, f5, f6⟩, zr, _, _⟩ := HL1.out.c7 0 rfl
  have m1 : b6 ≠ w1.heap.size := by omega
  have m2 := Ne.symm m1
  go_wp2
  refine post_nameQ ?_
  intro w2 hw2
  have HL3 := Lib.hid (((HL1.out.setEnt 0 rfl 0 0 0 0 0 0 (.slice none 0 0)).alloc 42 #[.int .i64 0, .int .i64 0, .int .i64 0, .int .i64 0, .int .i64 0, .int .i64 0, .slice none 0 0]).via hw2)
  simp only [List.set_cons_zero, List.set_cons_succ, List.cons_append, List.nil_append] at HL3
  obtain ⟨s0, s1, s2, s3, s4, s5, s6, _⟩ := HL3.out.c7 0 rfl
  have hzv : ME.zero.val = .agg #[.int .i64 0, .int .i64 0, .int .i64 0, .int .i64 0, .int .i64 0, .int .i64 0, .slice none 0 0] := rfl
  refine bodyPost_ret (v := .tuple #[.agg #[.int .i64 0, .int .i64 0, .int .i64 0, .int .i64 0, .int .i64 0, .int .i64 0, .slice none 0 0], .bool false]) (by simp [results, Tryd.results34, go_sem, s0, s1, s2, s3, s4, s5, s6]) rfl ?_
  exact ⟨by rw [hzv], HL3.out.tch⟩
set_option maxHeartbeats 1000000 in
theorem chLook_n (s i : Int) : Calls Tryd.prog 16 #[.pointer p, .int .i64 s, .int .i64 i] w fun e w' => e = .returned (.tuple #[ME.zero.val, .bool false]) ∧ Touch [] w w' := by
  have HLK := Lib.hid (fun W (hW : Touch [] w W) fn xs ys => readE_n W p (h.touch hW) s fn xs ys)
  clear h
  go_enter Tryd.func16, Tryd.ntmps16
  go_wp2_with fail
  refine wp_calls_name ?_
  intro w1 hw1
  have HL1 := Lib.hid ((Led.nil' w).al2 hw1)
  simp only [List.nil_append, List.cons_append] at HL1
  obtain ⟨b6, hb6⟩ : ∃ b, w.heap.size + 1 = b := ⟨_, rfl⟩
  rw [hb6] at HL1 ⊢
  obtain ⟨b5, hb5⟩ : ∃ b, w.heap.size = b := ⟨_, rfl⟩
  rw [hb5] at HL1 ⊢
  clear hw1 hb6 hb5
  refine (HLK.out _ HL1.out.tch _ _ _).mono ?_
  rintro e w2 ⟨rfl, ht⟩
  have HL2 := Lib.hid (HL1.out.touch ht)
  clear ht HL1
  have hzv : ME.zero.val = .agg #[.int .i64 0, .int .i64 0, .int .i64 0, .int .i64 0, .int .i64 0, .int .i64 0, .slice none 0 0] := rfl
  rw [hzv]
  obtain ⟨r0, r1, r2, r3, r4, r5, r6, ⟨f0, f1, f2, f3, f4, f5, f6⟩, zr, _, _⟩ := HL2.out.c7 1 rfl
  go_wp2
  have HL3 := Lib.hid (HL2.out.setEnt 1 rfl 0 0 0 0 0 0 (.slice none 0 0))
  simp only [List.set_cons_zero, List.set_cons_succ] at HL3
  obtain ⟨s0, s1, s2, s3, s4, s5, s6, _⟩ := HL3.out.c7 1 rfl
  refine bodyPost_ret (v := .tuple #[.agg #[.int .i64 0, .int .i64 0, .int .i64 0, .int .i64 0, .int .i64 0, .int .i64 0, .slice none 0 0], .bool false]) (by simp [results, Tryd.results16, go_sem, s0, s1, s2, s3, s4, s5, s6]) rfl ?_
  exact ⟨rfl, HL3.out.tch⟩
set_option maxHeartbeats 1000000 in
theorem chDrop_n (s i : Int) : Calls Tryd.prog 12 #[.pointer p, .int .i64 s, .int .i64 i] w fun e w' => e = .returned (.tuple #[ME.zero.val, .bool false]) ∧ Touch [] w w' := by
  have HLK := Lib.hid (fun W (hW : Touch [] w W) fn xs ys => readE_n W p (h.touch hW) s fn xs ys)
  clear h
  go_enter Tryd.func12, Tryd.ntmps12
  go_wp2_with fail
  refine wp_calls_name ?_
  intro w1 hw1
  have HL1 := Lib.hid ((Led.nil' w).al2 hw1)
  simp only [List.nil_append, List.cons_append] at HL1
  obtain ⟨b6, hb6⟩ : ∃ b, w.heap.size + 1 = b := ⟨_, rfl⟩
  rw [hb6] at HL1 ⊢
  obtain ⟨b5, hb5⟩ : ∃ b, w.heap.size = b := ⟨_, rfl⟩
  rw [hb5] at HL1 ⊢
  clear hw1 hb6 hb5
  refine (HLK.out _ HL1.out.tch _ _ _).mono ?_
  rintro e w2 ⟨rfl, ht⟩
  have HL2 := Lib.hid (HL1.out.touch ht)
  clear ht HL1
  have hzv : ME.zero.val = .agg #[.int .i64 0, .int .i64 0, .int .i64 0, .int .i64 0, .int .i64 0, .int .i64 0, .slice none 0 0] := rfl
  rw [hzv]
  obtain ⟨r0, r1, r2, r3, r4, r5, r6, ⟨f0, f1, f2, f3, f4, f5, f6⟩, zr, _, _⟩ := HL2.out.c7 1 rfl
  go_wp2
  have HL3 := Lib.hid (HL2.out.setEnt 1 rfl 0 0 0 0 0 0 (.slice none 0 0))
  simp only [List.set_cons_zero, List.set_cons_succ] at HL3
  obtain ⟨s0, s1, s2, s3, s4, s5, s6, _⟩ := HL3.out.c7 1 rfl
  refine bodyPost_ret (v := .tuple #[.agg #[.int .i64 0, .int .i64 0, .int .i64 0, .int .i64 0, .int .i64 0, .int .i64 0, .slice none 0 0], .bool false]) (by simp [results, Tryd.results12, go_sem, s0, s1, s2, s3, s4, s5, s6]) rfl ?_
  exact ⟨rfl, HL3.out.tch⟩
set_option maxHeartbeats 1000000 in
theorem chPush_n (s : Int) (x : ME) : Calls Tryd.prog 13 #[.pointer p, .int .i64 s, x.val] w fun e w' => e = .returned (.int .i64 1) ∧ Touch [] w w' := by
  have H := Lib.hid (fun W (hW : Touch [] w W) => h.touch hW)
  clear h
  simp only [ent_eq]
  go_enter Tryd.func13, Tryd.ntmps13
  go_wp2
  refine wp_scope_fwd 0 rfl ?_
  go_wp2_with fail
  refine wp_calls_name ?_
  intro w1 hw1
  have HT1 : Hid (Touch [] w w1) := hw1 ▸ (Touch.refl [] w).alloc _
  clear hw1
  refine (queue_n _ _ (H.out _ HT1.out) s).mono ?_
  rintro e w' ⟨rfl, rfl⟩
  go_wp2_with fail
  refine (chnone_yes _ _ (H.out _ HT1.out)).mono ?_
  rintro e w' ⟨rfl, rfl⟩
  go_wp2
  go_step3
  refine ⟨rfl, ?_⟩
  go_wp2
  refine noGoto_ret' ?_
  go_ret
  exact ⟨rfl, HT1.out⟩
end
theorem chNew_nil (w : World) : Calls Tryd.prog 9 #[.pointer none] w fun e w' => e = .returned (.tuple #[.pointer none, .int .i64 1]) ∧ Touch [] w w' := by
  have HA := Lib.hid (SpinNew_none w none (.inl rfl))
  go_enter Tryd.func9, Tryd.ntmps9
  go_wp2
  refine wp_scope_fwd 0 rfl ?_
  go_wp2_with fail
  refine HA.out.mono ?_
  rintro e w1 ⟨rfl, rfl⟩
  go_wp2
  go_step3
  refine ⟨rfl, ?_⟩
  go_wp2
  refine noGoto_ret' ?_
  go_ret2
  exact ⟨rfl, Touch.refl _ _⟩
theorem chSame_nil_in (n : Nat) (w : World) (p : Option Addr) (h : NoCh w p) : CallsIn Fence.wide n Tryd.prog 27 #[.pointer p, .pointer none] w fun e w' => e = .returned (.bool true) ∧ Touch [] w w' := by
  have HT := Lib.hid ((Touch.refl [] w).alloc (.cells #[.pointer none] 30))
  have H := Lib.hid (h.touch HT.out)
  clear h
  refine callsIn_of_wp_marks Tryd.func27 rfl trivial ?_ rfl
  simp only [Tryd.ntmps27, List.size_toArray, List.length_cons, List.length_nil, Nat.reduceAdd, Nat.reduceSub, Array.replicate_succ, Array.replicate_zero, List.push_toArray, List.append_toArray, List.nil_append, List.cons_append]
  gi_wp2_with fail
  refine ⟨trivial, nodepth, ?_⟩
  refine (callsIn_wide.2 (chnone_yes _ _ H.out)).mono ?_
  rintro e w' ⟨rfl, rfl⟩
  gi_wp2_with fail
  refine ⟨trivial, ?_⟩
  gi_wp2_with fail
  refine ⟨trivial, nodepth, ?_⟩
  refine (callsIn_wide.2 (chnone_yes _ _ H.out)).mono ?_
  rintro e w' ⟨rfl, rfl⟩
  gi_wp2_with fail
  refine ⟨trivial, nodepth, ?_⟩
  refine (callsIn_wide.2 (chnone_yes none _ (.inl rfl))).mono ?_
  rintro e w' ⟨rfl, rfl⟩
  gi_wp2
  exact leave_marks (v := .bool true) [] _ (by simp) (by simp) (by simp [shutAll, results, Tryd.results27, go_sem]) ⟨rfl, HT.out⟩
theorem chSame_nil (w : World) (p : Option Addr) (h : NoCh w p) : Calls Tryd.prog 27 #[.pointer p, .pointer none] w fun e w' => e = .returned (.bool true) ∧ Touch [] w w' := (callsIn_wide (n := 0)).1 (chSame_nil_in 0 w p h)
theorem chSame_left_in (n : Nat) (w : World) (p : Option Addr) (h : NoCh w p) (c : Nat) (a : Int) (M q1 q2 : Nat) (hc : ChAt w c a M q1 q2) : CallsIn Fence.wide n Tryd.prog 27 #[.pointer p, .pointer (some ⟨c, 0, none⟩)] w fun e w' => e = .returned (.bool false) ∧ Touch [] w w' := by
  have HT := Lib.hid ((Touch.refl [] w).alloc (.cells #[.pointer (some ⟨c, 0, none⟩)] 30))
  have H := Lib.hid (h.touch HT.out)
  have HC := Lib.hid (hc.touch HT.out)
  clear h hc
  refine callsIn_of_wp_marks Tryd.func27 rfl trivial ?_ rfl
  simp only [Tryd.ntmps27, List.size_toArray, List.length_cons, List.length_nil, Nat.reduceAdd, Nat.reduceSub, Array.replicate_succ, Array.replicate_zero, List.push_toArray, List.append_toArray, List.nil_append, List.cons_append]
  gi_wp2_with fail
  refine ⟨trivial, nodepth, ?_⟩
  refine (callsIn_wide.2 (chnone_yes _ _ H.out)).mono ?_
  rintro e w' ⟨rfl, rfl⟩
  gi_wp2_with fail
  refine ⟨trivial, ?_⟩
  gi_wp2_with fail
  refine ⟨trivial, nodepth, ?_⟩
  refine (callsIn_wide.2 (chnone_yes _ _ H.out)).mono ?_
  rintro e w' ⟨rfl, rfl⟩
  gi_wp2_with fail
  refine ⟨trivial, nodepth, ?_⟩
  refine (callsIn_wide.2 (chnone_no _ _ _ _ _ _ HC.out)).mono ?_
  rintro e w' ⟨rfl, rfl⟩
  gi_wp2
  exact leave_marks (v := .bool false) [] _ (by simp) (by simp) (by simp [shutAll, results, Tryd.results27, go_sem]) ⟨rfl, HT.out⟩
theorem chSame_left (w : World) (p : Option Addr) (h : NoCh w p) (c : Nat) (a : Int) (M q1 q2 : Nat) (hc : ChAt w c a M q1 q2) : Calls Tryd.prog 27 #[.pointer p, .pointer (some ⟨c, 0, none⟩)] w fun e w' => e = .returned (.bool false) ∧ Touch [] w w' := (callsIn_wide (n := 0)).1 (chSame_left_in 0 w p h c a M q1 q2 hc)
theorem idxS0 (W : World) : (Instr.index 99 (.agg #[.int .i64 1, .int .i64 2]) (.int .i64 0)).run Tryd.prog W = .ok (.int .i64 1) W := by kernel_rfl
theorem idxS1 (W : World) : (Instr.index 99 (.agg #[.int .i64 1, .int .i64 2]) (.int .i64 1)).run Tryd.prog W = .ok (.int .i64 2) W := by kernel_rfl
def otherOf (s : Int) : Int := if s = 1 then 2 else if s = 2 then 1 else 0
set_option maxHeartbeats 1000000 in
theorem Other_c (w : World) (s : Int) (hS : SidesAt w) : Calls Tryd.prog 30 #[.int .i64 s] w fun e w' => e = .returned (.int .i64 (otherOf s)) ∧ w = w' := by
  obtain ⟨t0, t1⟩ := hS
  have tl : 0 < w.heap.size := World.block_lt_of_cell? _ _ t0
  go_enter Tryd.func30, Tryd.ntmps30
  go_wp2_with fail
  go_loopw [6] (fun i wr => wr = w ∧ (i = .int .i64 0 ∨ (i = .int .i64 1 ∧ s ≠ 1) ∨ (i = .int .i64 2 ∧ s ≠ 1 ∧ s ≠ 2))) (fun i _ => 2 - (intOf i).toNat)
  case atStart => exact ⟨rfl, .inl rfl⟩
  case round =>
    obtain ⟨rfl, rfl | ⟨rfl, h1⟩ | ⟨rfl, h1, h2⟩⟩ := hrel
    · have hi := idxS0 wr
      by_cases hs : s = 1
      · subst hs
        go_wp2
        go_ret
        exact ⟨rfl, rfl⟩
      · have hs' : ¬ (1 : Int) = s := fun e => hs e.symm
        go_wp2
        clear hi
        go_roundw
        case rel => exact ⟨trivial, .inr (.inl ⟨by go_num, hs⟩)⟩
        case measure => simp [intOf]
    · have hi := idxS1 wr
      by_cases hs : s = 2
      · subst hs
        go_wp2
        go_ret
        exact ⟨rfl, rfl⟩
      · have hs' : ¬ (2 : Int) = s := fun e => hs e.symm
        go_wp2
        clear hi
        go_roundw
        case rel => exact ⟨trivial, .inr (.inr ⟨by go_num, h1, hs⟩)⟩
        case measure => simp [intOf]
    · have ho : otherOf s = 0 := by unfold otherOf; rw [if_neg h1, if_neg h2]
      go_wp2
      go_ret
      exact ⟨by rw [ho]; rfl, rfl⟩
end Go.Proofs.YtihmbgdkllmkaaaDoor

/-
  The reference of layer 14 (betrothalref14/ref.go): side, Push, Look, Drop, List, Other.
-/
namespace Go.Proofs.YtihmbgdkllmkaaaDoor
open Go.RowKit Go.Shelf
set_option maxRecDepth 100000
set_option linter.unusedVariables false
set_option linter.unusedSimpArgs false

/-- A channel of the reference. -/
def rc14 (cell : Int) (a1 : Option Addr) (n1 c1 : Nat) (a2 : Option Addr) (n2 c2 : Nat) : Value := .agg #[.int .i64 cell, .slice a1 n1 c1, .slice a2 n2 c2]
theorem rc14_eq (cell : Int) (a1 : Option Addr) (n1 c1 : Nat) (a2 : Option Addr) (n2 c2 : Nat) : rc14 cell a1 n1 c1 a2 n2 c2 = .agg #[.int .i64 cell, .slice a1 n1 c1, .slice a2 n2 c2] := rfl
def sideOf (s : Int) : Int := if s = 1 then 0 else if s = 2 then 1 else -1
theorem side14 (w : World) (s : Int) : Calls Tryd.prog 62 #[.int .i64 s] w fun e w' => e = .returned (.int .i64 (sideOf s)) ∧ w = w' := by
  by_cases h1 : s = 1
  · subst h1
    go_enter Tryd.func62, Tryd.ntmps62
    go_wp2
    go_ret
    exact ⟨rfl, rfl⟩
  by_cases h2 : s = 2
  · subst h2
    go_enter Tryd.func62, Tryd.ntmps62
    go_wp2
    go_ret
    exact ⟨rfl, rfl⟩
  · have h1' : (s == 1) = false := by simp [h1]
    have h2' : (s == 2) = false := by simp [h2]
    have ho : sideOf s = -1 := by unfold sideOf; rw [if_neg h1, if_neg h2]
    go_enter Tryd.func62, Tryd.ntmps62
    go_wp2
    go_ret
    exact ⟨by rw [ho]; rfl, rfl⟩
theorem Other_ref14 (w : World) (s : Int) (hs : -1000000 ≤ s ∧ s ≤ 1000000) : Calls Tryd.prog 56 #[.int .i64 s] w fun e w' => e = .returned (.int .i64 (otherOf s)) ∧ w = w' := by
  by_cases h1 : s = 1
  · subst h1
    go_enter Tryd.func56, Tryd.ntmps56
    go_wp2_with fail
    refine (side14 _ _).mono ?_
    rintro e w' ⟨rfl, rfl⟩
    rw [show sideOf 1 = 0 from rfl]
    go_wp2
    go_ret
    exact ⟨rfl, rfl⟩
  by_cases h2 : s = 2
  · subst h2
    go_enter Tryd.func56, Tryd.ntmps56
    go_wp2_with fail
    refine (side14 _ _).mono ?_
    rintro e w' ⟨rfl, rfl⟩
    rw [show sideOf 2 = 1 from rfl]
    go_wp2
    go_ret
    exact ⟨rfl, rfl⟩
  · have ho : sideOf s = -1 := by unfold sideOf; rw [if_neg h1, if_neg h2]
    have hoo : otherOf s = 0 := by unfold otherOf; rw [if_neg h1, if_neg h2]
    go_enter Tryd.func56, Tryd.ntmps56
    go_wp2_with fail
    refine (side14 _ _).mono ?_
    rintro e w' ⟨rfl, rfl⟩
    rw [ho]
    go_wp2
    go_ret
    exact ⟨by rw [hoo]; rfl, rfl⟩
section
variable (w : World) (cell : Int) (a1 : Option Addr) (n1 c1 : Nat) (a2 : Option Addr) (n2 c2 : Nat)
theorem List_ref14 (s : Int) : Calls Tryd.prog 28 #[rc14 cell a1 n1 c1 a2 n2 c2, .int .i64 s] w fun e w' => e = .returned (if s = 1 then .slice a1 n1 c1 else if s = 2 then .slice a2 n2 c2 else .slice none 0 0) ∧ Touch [] w w' := by
  have HL1 := Lib.hid ((Led.nil' w).alloc 61 #[.int .i64 cell, .slice a1 n1 c1, .slice a2 n2 c2])
  simp only [List.nil_append] at HL1
  obtain ⟨d0, d1, d2, _, _, _, hl, _, _⟩ := HL1.out.c3 0 rfl
  rw [rc14_eq]
  by_cases h1 : s = 1
  · subst h1
    go_enter Tryd.func28, Tryd.ntmps28
    go_wp2_with fail
    refine (side14 _ _).mono ?_
    rintro e w' ⟨rfl, rfl⟩
    rw [show sideOf 1 = 0 from rfl]
    go_wp2
    go_ret
    exact ⟨rfl, HL1.out.tch⟩
  by_cases h2 : s = 2
  · subst h2
    go_enter Tryd.func28, Tryd.ntmps28
    go_wp2_with fail
    refine (side14 _ _).mono ?_
    rintro e w' ⟨rfl, rfl⟩
    rw [show sideOf 2 = 1 from rfl]
    go_wp2
    go_ret
    exact ⟨rfl, HL1.out.tch⟩
  · have ho : sideOf s = -1 := by unfold sideOf; rw [if_neg h1, if_neg h2]
    go_enter Tryd.func28, Tryd.ntmps28
    go_wp2_with fail
    refine (side14 _ _).mono ?_
    rintro e w' ⟨rfl, rfl⟩
    rw [ho]
    go_wp2
    go_ret
    exact ⟨by simp [h1, h2], HL1.out.tch⟩
end
/-- What the reference's Look tells. -/
def LookedR (w : World) (rs : List ME) (i : Int) (e : Ending) (w' : World) : Prop := ∃ x c, e = .returned (.tuple #[x.val, .bool c]) ∧ AtRef rs i x c ∧ Touch [] w w'
theorem Look_ref14_1 (w : World) (cell : Int) (a1 : Option Addr) (c1 : Nat) (rs1 : List ME) (a2 : Option Addr) (c2 : Nat) (rs2 : List ME) (i : Int) (he : EntsAt w a1 rs1) : Calls Tryd.prog 51 #[rc14 cell a1 rs1.length c1 a2 rs2.length c2, .int .i64 1, .int .i64 i] w (LookedR w rs1 i) := by
  have HE := Lib.hid (fun W (hW : Touch [] w W) => he.touch hW)
  clear he
  rw [rc14_eq]
  go_enter Tryd.func51, Tryd.ntmps51
  go_wp2_with fail
  refine wp_calls_name ?_
  intro w1 hw1
  have HL1 := Lib.hid ((Led.nil' w).al2 hw1)
  simp only [List.nil_append, List.cons_append] at HL1
  obtain ⟨b6, hb6⟩ : ∃ b, w.heap.size + 1 = b := ⟨_, rfl⟩
  rw [hb6] at HL1 ⊢
  obtain ⟨b3, hb3⟩ : ∃ b, w.heap.size = b := ⟨_, rfl⟩
  rw [hb3] at HL1 ⊢
  clear hw1 hb6 hb3
  refine (side14 _ _).mono ?_
  rintro e w' ⟨rfl, rfl⟩
  rw [show sideOf 1 = 0 from rfl]
  obtain ⟨d0, d1, d2, _, _, _, hl, _, _⟩ := HL1.out.c3 0 rfl
  obtain ⟨r0, r1, r2, r3, r4, r5, r6, ⟨f0, f1, f2, f3, f4, f5, f6⟩, zr, _, _⟩ := HL1.out.c7 1 rfl
  go_wp2_with fail
  refine (At_ref w1 a1 c1 rs1 i (HE.out _ HL1.out.tch)).mono ?_
  rintro e w2 ⟨x, cc, rfl, hR, ht⟩
  have HL2 := Lib.hid (HL1.out.touch ht)
  have HR := Lib.hid hR
  clear hR ht HL1 d0 d1 d2 hl r0 r1 r2 r3 r4 r5 r6 f0 f1 f2 f3 f4 f5 f6 zr
  simp only [ent_eq]
  obtain ⟨r0, r1, r2, r3, r4, r5, r6, ⟨f0, f1, f2, f3, f4, f5, f6⟩, zr, _, _⟩ := HL2.out.c7 1 rfl
  go_wp2
  have HL3 := Lib.hid (HL2.out.setEnt 1 rfl x.sync x.thread x.branch x.flag x.v.kind x.v.num (.slice x.v.addr x.v.parts.length x.v.cap))
  simp only [List.set_cons_zero, List.set_cons_succ] at HL3
  obtain ⟨s0, s1, s2, s3, s4, s5, s6, _⟩ := HL3.out.c7 1 rfl
  refine bodyPost_ret (v := .tuple #[x.val, .bool cc]) (by simp [results, Tryd.results51, go_sem, s0, s1, s2, s3, s4, s5, s6, ent_eq]) rfl ?_
  exact ⟨x, cc, rfl, HR.out, HL3.out.tch⟩
theorem Look_ref14_2 (w : World) (cell : Int) (a1 : Option Addr) (c1 : Nat) (rs1 : List ME) (a2 : Option Addr) (c2 : Nat) (rs2 : List ME) (i : Int) (he : EntsAt w a2 rs2) : Calls Tryd.prog 51 #[rc14 cell a1 rs1.length c1 a2 rs2.length c2, .int .i64 2, .int .i64 i] w (LookedR w rs2 i) := by
  have HE := Lib.hid (fun W (hW : Touch [] w W) => he.touch hW)
  clear he
  rw [rc14_eq]
  go_enter Tryd.func51, Tryd.ntmps51
  go_wp2_with fail
  refine wp_calls_name ?_
  intro w1 hw1
  have HL1 := Lib.hid ((Led.nil' w).al2 hw1)
  simp only [List.nil_append, List.cons_append] at HL1
  obtain ⟨b6, hb6⟩ : ∃ b, w.heap.size + 1 = b := ⟨_, rfl⟩
  rw [hb6] at HL1 ⊢
  obtain ⟨b3, hb3⟩ : ∃ b, w.heap.size = b := ⟨_, rfl⟩
  rw [hb3] at HL1 ⊢
  clear hw1 hb6 hb3
  refine (side14 _ _).mono ?_
  rintro e w' ⟨rfl, rfl⟩
  rw [show sideOf 2 = 1 from rfl]
  obtain ⟨d0, d1, d2, _, _, _, hl, _, _⟩ := HL1.out.c3 0 rfl
  obtain ⟨r0, r1, r2, r3, r4, r5, r6, ⟨f0, f1, f2, f3, f4, f5, f6⟩, zr, _, _⟩ := HL1.out.c7 1 rfl
  go_wp2_with fail
  refine (At_ref w1 a2 c2 rs2 i (HE.out _ HL1.out.tch)).mono ?_
  rintro e w2 ⟨x, cc, rfl, hR, ht⟩
  have HL2 := Lib.hid (HL1.out.touch ht)
  have HR := Lib.hid hR
  clear hR ht HL1 d0 d1 d2 hl r0 r1 r2 r3 r4 r5 r6 f0 f1 f2 f3 f4 f5 f6 zr
  simp only [ent_eq]
  obtain ⟨r0, r1, r2, r3, r4, r5, r6, ⟨f0, f1, f2, f3, f4, f5, f6⟩, zr, _, _⟩ := HL2.out.c7 1 rfl
  go_wp2
  have HL3 := Lib.hid (HL2.out.setEnt 1 rfl x.sync x.thread x.branch x.flag x.v.kind x.v.num (.slice x.v.addr x.v.parts.length x.v.cap))
  simp only [List.set_cons_zero, List.set_cons_succ] at HL3
  obtain ⟨s0, s1, s2, s3, s4, s5, s6, _⟩ := HL3.out.c7 1 rfl
  refine bodyPost_ret (v := .tuple #[x.val, .bool cc]) (by simp [results, Tryd.results51, go_sem, s0, s1, s2, s3, s4, s5, s6, ent_eq]) rfl ?_
  exact ⟨x, cc, rfl, HR.out, HL3.out.tch⟩
theorem Look_ref14_no (w : World) (cell : Int) (a1 : Option Addr) (n1 c1 : Nat) (a2 : Option Addr) (n2 c2 : Nat) (s i : Int) (h1 : s ≠ 1) (h2 : s ≠ 2) : Calls Tryd.prog 51 #[rc14 cell a1 n1 c1 a2 n2 c2, .int .i64 s, .int .i64 i] w fun e w' => e = .returned (.tuple #[ME.zero.val, .bool false]) ∧ Touch [] w w' := by
  have ho : sideOf s = -1 := by unfold sideOf; rw [if_neg h1, if_neg h2]
  have hbe := build_ent
  simp only [ent_eq, ME.zero, MT.zero, MT.kind, MT.num, MT.addr, MT.parts, MT.cap, List.length_nil] at hbe
  rw [rc14_eq]
  go_enter Tryd.func51, Tryd.ntmps51
  go_wp2_with fail
  refine wp_calls_name ?_
  intro w1 hw1
  have HL1 := Lib.hid ((Led.nil' w).al2 hw1)
  simp only [List.nil_append, List.cons_append] at HL1
  obtain ⟨b6, hb6⟩ : ∃ b, w.heap.size + 1 = b := ⟨_, rfl⟩
  rw [hb6] at HL1 ⊢
  obtain ⟨b3, hb3⟩ : ∃ b, w.heap.size = b := ⟨_, rfl⟩
  rw [hb3] at HL1 ⊢
  clear hw1 hb6 hb3
  refine (side14 _ _).mono ?_
  rintro e w' ⟨rfl, rfl⟩
  rw [ho]
  obtain ⟨d0, d1, d2, _, _, _, hl, _, _⟩ := HL1.out.c3 0 rfl
  obtain ⟨r0, r1, r2, r3, r4, r5, r6, ⟨f0, f1, f2, f3, f4, f5, f6⟩, zr, _, _⟩ := HL1.out.c7 1 rfl
  go_wp2
  have HL3 := Lib.hid (HL1.out.setEnt 1 rfl 0 0 0 0 0 0 (.slice none 0 0))
  simp only [List.set_cons_zero, List.set_cons_succ] at HL3
  obtain ⟨s0, s1, s2, s3, s4, s5, s6, _⟩ := HL3.out.c7 1 rfl
  have hzv : ME.zero.val = .agg #[.int .i64 0, .int .i64 0, .int .i64 0, .int .i64 0, .int .i64 0, .int .i64 0, .slice none 0 0] := rfl
  refine bodyPost_ret (v := .tuple #[.agg #[.int .i64 0, .int .i64 0, .int .i64 0, .int .i64 0, .int .i64 0, .int .i64 0, .slice none 0 0], .bool false]) (by simp [results, Tryd.results51, go_sem, s0, s1, s2, s3, s4, s5, s6]) rfl ?_
  exact ⟨by rw [hzv], HL3.out.tch⟩
end Go.Proofs.YtihmbgdkllmkaaaDoor

/-
  The reference of layer 14 (betrothalref14/ref.go): Push, Drop.
-/
namespace Go.Proofs.YtihmbgdkllmkaaaDoor
open Go.RowKit Go.Shelf
set_option maxRecDepth 100000
set_option linter.unusedVariables false
set_option linter.unusedSimpArgs false

theorem exit_nameR {Q : Exit → Act → World → Prop} {ex : Exit} {a : Act} {W : World} (h : ∀ w2, W = w2 → Q ex a w2) : Q ex a W := h W rfl
/-- What the reference tells of a push on a side. -/
def Pushed14 (rs : List ME) (x : ME) (err : Int) (rs' : List ME) : Prop := (err = 2 ∧ ¬ x.plain.Ok ∧ rs' = rs) ∨ (err = 6 ∧ x.plain.Ok ∧ rs.length = 4096 ∧ rs' = rs) ∨ (err = 0 ∧ x.plain.Ok ∧ rs.length < 4096 ∧ rs' = rs ++ [x])
set_option maxHeartbeats 2000000 in
theorem Push_ref14_1 (T : List Nat) (w : World) (P : World → Prop) (cell : Int) (a1 : Option Addr) (c1 : Nat) (rs1 : List ME) (a2 : Option Addr) (c2 : Nat) (rs2 : List ME) (x : ME) (hcap : rs1.length ≤ c1) (h : Led T w w [stillT P]) (hP : ∀ W, P W → EntsAt W a1 rs1 ∧ x.v.In W) (hnx : x.v.nodes ≤ 1048576) (hlen : rs1.length ≤ 4096) :
    Calls Tryd.prog 50 #[rc14 cell a1 rs1.length c1 a2 rs2.length c2, .int .i64 1, x.val] w fun e w' => ∃ (err : Int) (a' : Option Addr) (cap' : Nat) (rs' : List ME) (rest : List Thing), e = .returned (.tuple #[rc14 cell a' rs'.length cap' a2 rs2.length c2, .int .i64 err]) ∧ rs'.length ≤ cap' ∧ Pushed14 rs1 x err rs' ∧ ∃ P' : World → Prop, (∀ W, P' W → P W ∧ EntsAt W a' rs') ∧ Led T w w' (stillT P' :: rest) := by
  have HP := Lib.hid hP
  have HL0 := Lib.hid h
  clear h hP
  rw [rc14_eq]
  simp only [ent_eq]
  go_enter Tryd.func50, Tryd.ntmps50
  go_wp2_with fail
  refine wp_calls_name ?_
  intro w1 hw1
  have HL1 := Lib.hid (HL0.out.al3 hw1)
  simp only [List.nil_append, List.cons_append] at HL1
  obtain ⟨b6, hb6⟩ : ∃ b, w.heap.size + 1 + 1 = b := ⟨_, rfl⟩
  rw [hb6] at HL1 ⊢
  obtain ⟨b5, hb5⟩ : ∃ b, w.heap.size + 1 = b := ⟨_, rfl⟩
  rw [hb5] at HL1 ⊢
  obtain ⟨b3, hb3⟩ : ∃ b, w.heap.size = b := ⟨_, rfl⟩
  rw [hb3] at HL1 ⊢
  clear hw1 hb6 hb5 hb3 HL0
  refine (side14 _ _).mono ?_
  rintro e w' ⟨rfl, rfl⟩
  rw [show sideOf 1 = 0 from rfl]
  have HLa := Lib.hid HL1.out.drew
  have HLb := Lib.hid (HL1.out.alloc 58 #[.slice none 0 0]).drew
  simp only [List.nil_append, List.cons_append] at HLb
  obtain ⟨d0, d1, d2, df0, df1, df2, hl, _, _⟩ := HL1.out.c3 1 rfl
  obtain ⟨x0, x1, x2, x3, x4, x5, x6, _, hl5, _, _⟩ := HL1.out.c7 2 rfl
  have m1 : b3 ≠ w1.heap.size := by omega
  have m2 := Ne.symm m1
  have m3 : b5 ≠ w1.heap.size := by omega
  have m4 := Ne.symm m3
  go_wp2_with fail
  go_region_held3 (fun w' => (w'.cell? ⟨b3, 0, none⟩ = some (.int .i64 cell) ∧ w'.cell? ⟨b3, 1, none⟩ = some (.slice a1 rs1.length c1) ∧ w'.cell? ⟨b3, 2, none⟩ = some (.slice a2 rs2.length c2)) ∧ w'.cell? ⟨b5, 0, none⟩ = some (.int .i64 x.sync) ∧ w'.cell? ⟨b5, 1, none⟩ = some (.int .i64 x.thread) ∧ w'.cell? ⟨b5, 2, none⟩ = some (.int .i64 x.branch) ∧ w'.cell? ⟨b5, 3, none⟩ = some (.int .i64 x.flag) ∧ w'.cell? ⟨b5, 4, none⟩ = some (.int .i64 x.v.kind) ∧ w'.cell? ⟨b5, 5, none⟩ = some (.int .i64 x.v.num) ∧ w'.cell? ⟨b5, 6, none⟩ = some (.slice x.v.addr x.v.parts.length x.v.cap)) (go_keep) (first
    | (go_at_call 71; refine (HLa.out.rPush 0 rfl a1 c1 rs1 x hcap HP.out hnx hlen).mono ?_; rintro e w2 ⟨err, a', cap', rs', rfl, hcp, hc, P', hP', hL⟩; have HL2 := Lib.hid hL; (simp only [List.set_cons_zero] at HL2); have HC := Lib.hid hc; have HCP := Lib.hid hcp; have HPP := Lib.hid hP'; clear hL hc hcp hP' d0 d1 d2 df0 df1 df2 hl x0 x1 x2 x3 x4 x5 x6 hl5 m1 m2 m3 m4; obtain ⟨d0, d1, d2, df0, df1, df2, hl, _, _⟩ := HL2.out.c3 1 rfl; obtain ⟨x0, x1, x2, x3, x4, x5, x6, _, hl5, _, _⟩ := HL2.out.c7 2 rfl; have m1 : b3 ≠ w2.heap.size := (by omega); have m2 := Ne.symm m1; have m3 : b5 ≠ w2.heap.size := (by omega); have m4 := Ne.symm m3)
    | (go_at_call 71; refine (HLb.out.rPush 0 rfl a1 c1 rs1 x hcap HP.out hnx hlen).mono ?_; rintro e w2 ⟨err, a', cap', rs', rfl, hcp, hc, P', hP', hL⟩; have HL2 := Lib.hid hL; (simp only [List.set_cons_zero] at HL2); have HC := Lib.hid hc; have HCP := Lib.hid hcp; have HPP := Lib.hid hP'; clear hL hc hcp hP' d0 d1 d2 df0 df1 df2 hl x0 x1 x2 x3 x4 x5 x6 hl5; obtain ⟨d0, d1, d2, df0, df1, df2, hl, _, _⟩ := HL2.out.c3 1 rfl; obtain ⟨x0, x1, x2, x3, x4, x5, x6, _, hl5, _, _⟩ := HL2.out.c7 2 rfl; obtain ⟨k0, kf, hlk, _, _⟩ := HL2.out.c1 4 rfl))
  all_goals rename_i hHeld
  all_goals clear hHeld HLa HLb m1 m2 m3 m4
  all_goals clear d0 d1 d2 df0 df1 df2 hl x0 x1 x2 x3 x4 x5 x6 hl5
  all_goals refine exit_nameR (Q := Exit.then _ _) ?_
  all_goals intro w5 hw5
  all_goals first
    | (have k0' := k0; clear k0'; have HL4 := Lib.hid ((HL2.out.set 4 rfl 0 (.slice a' rs'.length cap')).via hw5); (simp only [List.set_cons_succ, List.set_cons_zero, List.setIfInBounds_toArray] at HL4); clear hw5 HL2 k0 kf hlk; obtain ⟨b9, hb9⟩ : ∃ b, w1.heap.size = b := ⟨_, rfl⟩; rw [hb9] at HL4 ⊢; clear hb9)
    | (have HL4 := Lib.hid ((HL2.out.alloc 58 #[.slice a' rs'.length cap']).via hw5); clear hw5 HL2; obtain ⟨b9, hb9⟩ : ∃ b, w2.heap.size = b := ⟨_, rfl⟩; rw [hb9] at HL4 ⊢; clear hb9)
  all_goals
    (try simp only [List.nil_append, List.cons_append] at HL4)
    obtain ⟨d0, d1, d2, df0, df1, df2, hl, _, _⟩ := HL4.out.c3 1 rfl
    obtain ⟨u0, u1, u2, uf0, uf1, uf2, hu, _, _⟩ := HL4.out.c3 3 rfl
    obtain ⟨k0, kf, hlk, _, _⟩ := HL4.out.c1 4 rfl
    have n1 := HL4.out.ne 1 3 rfl rfl (by decide)
    have n2 := Ne.symm n1
    have n3 := HL4.out.ne 1 4 rfl rfl (by decide)
    have n4 := Ne.symm n3
    go_wp2
    have HL6 := Lib.hid ((((HL4.out.set 1 rfl 1 (.slice a' rs'.length cap')).set 3 rfl 0 (.int .i64 cell)).set 3 rfl 1 (.slice a' rs'.length cap')).set 3 rfl 2 (.slice a2 rs2.length c2))
    simp only [List.set_cons_succ, List.set_cons_zero, List.setIfInBounds_toArray] at HL6
    obtain ⟨s0, s1, s2, _⟩ := HL6.out.c3 3 rfl
    refine bodyPost_ret (v := .tuple #[rc14 cell a' rs'.length cap' a2 rs2.length c2, .int .i64 err]) (by simp [results, Tryd.results50, go_sem, s0, s1, s2, rc14]) rfl ?_
    exact ⟨err, a', cap', rs', _, rfl, HCP.out, HC.out, P', HPP.out, HL6.out⟩
set_option maxHeartbeats 2000000 in
theorem Push_ref14_2 (T : List Nat) (w : World) (P : World → Prop) (cell : Int) (a1 : Option Addr) (c1 : Nat) (rs1 : List ME) (a2 : Option Addr) (c2 : Nat) (rs2 : List ME) (x : ME) (hcap : rs2.length ≤ c2) (h : Led T w w [stillT P]) (hP : ∀ W, P W → EntsAt W a2 rs2 ∧ x.v.In W) (hnx : x.v.nodes ≤ 1048576) (hlen : rs2.length ≤ 4096) :
    Calls Tryd.prog 50 #[rc14 cell a1 rs1.length c1 a2 rs2.length c2, .int .i64 2, x.val] w fun e w' => ∃ (err : Int) (a' : Option Addr) (cap' : Nat) (rs' : List ME) (rest : List Thing), e = .returned (.tuple #[rc14 cell a1 rs1.length c1 a' rs'.length cap', .int .i64 err]) ∧ rs'.length ≤ cap' ∧ Pushed14 rs2 x err rs' ∧ ∃ P' : World → Prop, (∀ W, P' W → P W ∧ EntsAt W a' rs') ∧ Led T w w' (stillT P' :: rest) := by
  have HP := Lib.hid hP
  have HL0 := Lib.hid h
  clear h hP
  rw [rc14_eq]
  simp only [ent_eq]
  go_enter Tryd.func50, Tryd.ntmps50
  go_wp2_with fail
  refine wp_calls_name ?_
  intro w1 hw1
  have HL1 := Lib.hid (HL0.out.al3 hw1)
  simp only [List.nil_append, List.cons_append] at HL1
  obtain ⟨b6, hb6⟩ : ∃ b, w.heap.size + 1 + 1 = b := ⟨_, rfl⟩
  rw [hb6] at HL1 ⊢
  obtain ⟨b5, hb5⟩ : ∃ b, w.heap.size + 1 = b := ⟨_, rfl⟩
  rw [hb5] at HL1 ⊢
  obtain ⟨b3, hb3⟩ : ∃ b, w.heap.size = b := ⟨_, rfl⟩
  rw [hb3] at HL1 ⊢
  clear hw1 hb6 hb5 hb3 HL0
  refine (side14 _ _).mono ?_
  rintro e w' ⟨rfl, rfl⟩
  rw [show sideOf 2 = 1 from rfl]
  have HLa := Lib.hid HL1.out.drew
  have HLb := Lib.hid (HL1.out.alloc 58 #[.slice none 0 0]).drew
  simp only [List.nil_append, List.cons_append] at HLb
  obtain ⟨d0, d1, d2, df0, df1, df2, hl, _, _⟩ := HL1.out.c3 1 rfl
  obtain ⟨x0, x1, x2, x3, x4, x5, x6, _, hl5, _, _⟩ := HL1.out.c7 2 rfl
  have m1 : b3 ≠ w1.heap.size := by omega
  have m2 := Ne.symm m1
  have m3 : b5 ≠ w1.heap.size := by omega
  have m4 := Ne.symm m3
  go_wp2_with fail
  go_region_held3 (fun w' => (w'.cell? ⟨b3, 0, none⟩ = some (.int .i64 cell) ∧ w'.cell? ⟨b3, 1, none⟩ = some (.slice a1 rs1.length c1) ∧ w'.cell? ⟨b3, 2, none⟩ = some (.slice a2 rs2.length c2)) ∧ w'.cell? ⟨b5, 0, none⟩ = some (.int .i64 x.sync) ∧ w'.cell? ⟨b5, 1, none⟩ = some (.int .i64 x.thread) ∧ w'.cell? ⟨b5, 2, none⟩ = some (.int .i64 x.branch) ∧ w'.cell? ⟨b5, 3, none⟩ = some (.int .i64 x.flag) ∧ w'.cell? ⟨b5, 4, none⟩ = some (.int .i64 x.v.kind) ∧ w'.cell? ⟨b5, 5, none⟩ = some (.int .i64 x.v.num) ∧ w'.cell? ⟨b5, 6, none⟩ = some (.slice x.v.addr x.v.parts.length x.v.cap)) (go_keep) (first
    | (go_at_call 71; refine (HLa.out.rPush 0 rfl a2 c2 rs2 x hcap HP.out hnx hlen).mono ?_; rintro e w2 ⟨err, a', cap', rs', rfl, hcp, hc, P', hP', hL⟩; have HL2 := Lib.hid hL; (simp only [List.set_cons_zero] at HL2); have HC := Lib.hid hc; have HCP := Lib.hid hcp; have HPP := Lib.hid hP'; clear hL hc hcp hP' d0 d1 d2 df0 df1 df2 hl x0 x1 x2 x3 x4 x5 x6 hl5 m1 m2 m3 m4; obtain ⟨d0, d1, d2, df0, df1, df2, hl, _, _⟩ := HL2.out.c3 1 rfl; obtain ⟨x0, x1, x2, x3, x4, x5, x6, _, hl5, _, _⟩ := HL2.out.c7 2 rfl; have m1 : b3 ≠ w2.heap.size := (by omega); have m2 := Ne.symm m1; have m3 : b5 ≠ w2.heap.size := (by omega); have m4 := Ne.symm m3)
    | (go_at_call 71; refine (HLb.out.rPush 0 rfl a2 c2 rs2 x hcap HP.out hnx hlen).mono ?_; rintro e w2 ⟨err, a', cap', rs', rfl, hcp, hc, P', hP', hL⟩; have HL2 := Lib.hid hL; (simp only [List.set_cons_zero] at HL2); have HC := Lib.hid hc; have HCP := Lib.hid hcp; have HPP := Lib.hid hP'; clear hL hc hcp hP' d0 d1 d2 df0 df1 df2 hl x0 x1 x2 x3 x4 x5 x6 hl5; obtain ⟨d0, d1, d2, df0, df1, df2, hl, _, _⟩ := HL2.out.c3 1 rfl; obtain ⟨x0, x1, x2, x3, x4, x5, x6, _, hl5, _, _⟩ := HL2.out.c7 2 rfl; obtain ⟨k0, kf, hlk, _, _⟩ := HL2.out.c1 4 rfl))
  all_goals rename_i hHeld
  all_goals clear hHeld HLa HLb m1 m2 m3 m4
  all_goals clear d0 d1 d2 df0 df1 df2 hl x0 x1 x2 x3 x4 x5 x6 hl5
  all_goals refine exit_nameR (Q := Exit.then _ _) ?_
  all_goals intro w5 hw5
  all_goals first
    | (have k0' := k0; clear k0'; have HL4 := Lib.hid ((HL2.out.set 4 rfl 0 (.slice a' rs'.length cap')).via hw5); (simp only [List.set_cons_succ, List.set_cons_zero, List.setIfInBounds_toArray] at HL4); clear hw5 HL2 k0 kf hlk; obtain ⟨b9, hb9⟩ : ∃ b, w1.heap.size = b := ⟨_, rfl⟩; rw [hb9] at HL4 ⊢; clear hb9)
    | (have HL4 := Lib.hid ((HL2.out.alloc 58 #[.slice a' rs'.length cap']).via hw5); clear hw5 HL2; obtain ⟨b9, hb9⟩ : ∃ b, w2.heap.size = b := ⟨_, rfl⟩; rw [hb9] at HL4 ⊢; clear hb9)
  all_goals
    (try simp only [List.nil_append, List.cons_append] at HL4)
    obtain ⟨d0, d1, d2, df0, df1, df2, hl, _, _⟩ := HL4.out.c3 1 rfl
    obtain ⟨u0, u1, u2, uf0, uf1, uf2, hu, _, _⟩ := HL4.out.c3 3 rfl
    obtain ⟨k0, kf, hlk, _, _⟩ := HL4.out.c1 4 rfl
    have n1 := HL4.out.ne 1 3 rfl rfl (by decide)
    have n2 := Ne.symm n1
    have n3 := HL4.out.ne 1 4 rfl rfl (by decide)
    have n4 := Ne.symm n3
    go_wp2
    have HL6 := Lib.hid ((((HL4.out.set 1 rfl 2 (.slice a' rs'.length cap')).set 3 rfl 0 (.int .i64 cell)).set 3 rfl 1 (.slice a1 rs1.length c1)).set 3 rfl 2 (.slice a' rs'.length cap'))
    simp only [List.set_cons_succ, List.set_cons_zero, List.setIfInBounds_toArray] at HL6
    obtain ⟨s0, s1, s2, _⟩ := HL6.out.c3 3 rfl
    refine bodyPost_ret (v := .tuple #[rc14 cell a1 rs1.length c1 a' rs'.length cap', .int .i64 err]) (by simp [results, Tryd.results50, go_sem, s0, s1, s2, rc14]) rfl ?_
    exact ⟨err, a', cap', rs', _, rfl, HCP.out, HC.out, P', HPP.out, HL6.out⟩
theorem Push_ref14_no (w : World) (cell : Int) (a1 : Option Addr) (n1 c1 : Nat) (a2 : Option Addr) (n2 c2 : Nat) (s : Int) (x : ME) (h1 : s ≠ 1) (h2 : s ≠ 2) : Calls Tryd.prog 50 #[rc14 cell a1 n1 c1 a2 n2 c2, .int .i64 s, x.val] w fun e w' => e = .returned (.tuple #[rc14 cell a1 n1 c1 a2 n2 c2, .int .i64 2]) ∧ Touch [] w w' := by
  have ho : sideOf s = -1 := by unfold sideOf; rw [if_neg h1, if_neg h2]
  rw [rc14_eq]
  simp only [ent_eq]
  go_enter Tryd.func50, Tryd.ntmps50
  go_wp2_with fail
  refine wp_calls_name ?_
  intro w1 hw1
  have HL1 := Lib.hid ((Led.nil' w).al3 hw1)
  simp only [List.nil_append, List.cons_append] at HL1
  obtain ⟨b6, hb6⟩ : ∃ b, w.heap.size + 1 + 1 = b := ⟨_, rfl⟩
  rw [hb6] at HL1 ⊢
  obtain ⟨b5, hb5⟩ : ∃ b, w.heap.size + 1 = b := ⟨_, rfl⟩
  rw [hb5] at HL1 ⊢
  obtain ⟨b3, hb3⟩ : ∃ b, w.heap.size = b := ⟨_, rfl⟩
  rw [hb3] at HL1 ⊢
  clear hw1 hb6 hb5 hb3
  refine (side14 _ _).mono ?_
  rintro e w' ⟨rfl, rfl⟩
  rw [ho]
  obtain ⟨d0, d1, d2, df0, df1, df2, hl, _, _⟩ := HL1.out.c3 0 rfl
  obtain ⟨u0, u1, u2, uf0, uf1, uf2, hu, _, _⟩ := HL1.out.c3 2 rfl
  go_wp2
  have HL6 := Lib.hid (((HL1.out.set 2 rfl 0 (.int .i64 cell)).set 2 rfl 1 (.slice a1 n1 c1)).set 2 rfl 2 (.slice a2 n2 c2))
  simp only [List.set_cons_succ, List.set_cons_zero, List.setIfInBounds_toArray] at HL6
  obtain ⟨s0, s1, s2, _⟩ := HL6.out.c3 2 rfl
  refine bodyPost_ret (v := .tuple #[.agg #[.int .i64 cell, .slice a1 n1 c1, .slice a2 n2 c2], .int .i64 2]) (by simp [results, Tryd.results50, go_sem, s0, s1, s2]) rfl ?_
  exact ⟨rfl, HL6.out.tch⟩
set_option maxHeartbeats 2000000 in
theorem Drop_ref14_1 (T : List Nat) (w : World) (P : World → Prop) (cell : Int) (a1 : Option Addr) (c1 : Nat) (rs1 : List ME) (a2 : Option Addr) (c2 : Nat) (rs2 : List ME) (i : Int) (hcap : rs1.length ≤ c1) (h : Led T w w [stillT P]) (hP : ∀ W, P W → EntsAt W a1 rs1) (hlen : rs1.length ≤ 1048576) :
    Calls Tryd.prog 53 #[rc14 cell a1 rs1.length c1 a2 rs2.length c2, .int .i64 1, .int .i64 i] w fun e w' => ∃ (a' : Option Addr) (cap' : Nat) (rs' : List ME) (x : ME) (c : Bool) (rest : List Thing), e = .returned (.tuple #[rc14 cell a' rs'.length cap' a2 rs2.length c2, x.val, .bool c]) ∧ rs'.length ≤ cap' ∧ AtRef rs1 i x c ∧ rs' = (if c = true then rs1.eraseIdx i.toNat else rs1) ∧ ∃ P' : World → Prop, (∀ W, P' W → P W ∧ EntsAt W a' rs') ∧ Led T w w' (stillT P' :: rest) := by
  have HP := Lib.hid hP
  have HL0 := Lib.hid h
  clear h hP
  rw [rc14_eq]
  go_enter Tryd.func53, Tryd.ntmps53
  go_wp2_with fail
  refine wp_calls_name ?_
  intro w1 hw1
  have HL1 := Lib.hid (HL0.out.al3 hw1)
  simp only [List.nil_append, List.cons_append] at HL1
  obtain ⟨b7, hb7⟩ : ∃ b, w.heap.size + 1 + 1 = b := ⟨_, rfl⟩
  rw [hb7] at HL1 ⊢
  obtain ⟨b6, hb6⟩ : ∃ b, w.heap.size + 1 = b := ⟨_, rfl⟩
  rw [hb6] at HL1 ⊢
  obtain ⟨b3, hb3⟩ : ∃ b, w.heap.size = b := ⟨_, rfl⟩
  rw [hb3] at HL1 ⊢
  clear hw1 hb7 hb6 hb3 HL0
  refine (side14 _ _).mono ?_
  rintro e w' ⟨rfl, rfl⟩
  rw [show sideOf 1 = 0 from rfl]
  obtain ⟨d0, d1, d2, df0, df1, df2, hl, _, _⟩ := HL1.out.c3 1 rfl
  go_wp2_with fail
  refine (HL1.out.rDrop 0 rfl a1 c1 rs1 i hcap HP.out hlen).mono ?_
  rintro e w2 ⟨a', cap', rs', x, c, rfl, hcp, hR, hrs, P', hP', hL⟩
  have HL2 := Lib.hid hL
  simp only [List.set_cons_zero] at HL2
  have HR := Lib.hid hR
  have HRS := Lib.hid hrs
  have HCP := Lib.hid hcp
  have HPP := Lib.hid hP'
  clear hL hR hrs hcp hP' HL1 d0 d1 d2 df0 df1 df2 hl
  simp only [ent_eq]
  go_upto_region 5 with fail
  refine wp_name ?_
  intro w5 hw5
  have HL4 := Lib.hid (((HL2.out.alloc 58 #[.slice a' rs'.length cap']).alloc 42 #[.int .i64 x.sync, .int .i64 x.thread, .int .i64 x.branch, .int .i64 x.flag, .int .i64 x.v.kind, .int .i64 x.v.num, .slice x.v.addr x.v.parts.length x.v.cap]).via hw5)
  simp only [List.nil_append, List.cons_append, World.size_alloc] at HL4
  obtain ⟨b11, hb11⟩ : ∃ b, w2.heap.size + 1 = b := ⟨_, rfl⟩
  rw [hb11] at HL4 ⊢
  obtain ⟨b10, hb10⟩ : ∃ b, w2.heap.size = b := ⟨_, rfl⟩
  rw [hb10] at HL4 ⊢
  clear hw5 hb11 hb10 HL2
  obtain ⟨d0, d1, d2, df0, df1, df2, hl, _, _⟩ := HL4.out.c3 1 rfl
  obtain ⟨k0, kf, hlk, _, _⟩ := HL4.out.c1 4 rfl
  have n3 := HL4.out.ne 1 4 rfl rfl (by decide)
  have n4 := Ne.symm n3
  go_upto_region 6 with fail
  refine wp_name ?_
  intro w6 hw6
  have HL5 := Lib.hid ((HL4.out.set 1 rfl 1 (.slice a' rs'.length cap')).via hw6)
  simp only [List.set_cons_succ, List.set_cons_zero, List.setIfInBounds_toArray] at HL5
  clear hw6 HL4 d0 d1 d2 df0 df1 df2 hl k0 kf hlk n3 n4
  obtain ⟨d0, d1, d2, df0, df1, df2, hl, _, _⟩ := HL5.out.c3 1 rfl
  obtain ⟨u0, u1, u2, uf0, uf1, uf2, hu, _, _⟩ := HL5.out.c3 2 rfl
  obtain ⟨r0, r1, r2, r3, r4, r5, r6, ⟨f0, f1, f2, f3, f4, f5, f6⟩, zr, _, _⟩ := HL5.out.c7 3 rfl
  obtain ⟨x0, x1, x2, x3, x4, x5, x6, _, hlx, _, _⟩ := HL5.out.c7 5 rfl
  have n1 := HL5.out.ne 1 2 rfl rfl (by decide)
  have n2 := Ne.symm n1
  have n3 := HL5.out.ne 1 3 rfl rfl (by decide)
  have n4 := Ne.symm n3
  have n5 := HL5.out.ne 2 3 rfl rfl (by decide)
  have n6 := Ne.symm n5
  have n7 := HL5.out.ne 2 5 rfl rfl (by decide)
  have n8 := Ne.symm n7
  have n9 := HL5.out.ne 3 5 rfl rfl (by decide)
  have n10 := Ne.symm n9
  go_wp2_with fail
  go_region
  refine exit_nameR (Q := Exit.then _ _) ?_
  intro w7 hw7
  have HL6 := Lib.hid ((((((HL5.out.set 2 rfl 0 (.int .i64 cell)).set 2 rfl 1 (.slice a' rs'.length cap')).set 2 rfl 2 (.slice a2 rs2.length c2)).setEnt 3 rfl x.sync x.thread x.branch x.flag x.v.kind x.v.num (.slice x.v.addr x.v.parts.length x.v.cap))).drew.via hw7)
  simp only [List.set_cons_succ, List.set_cons_zero, List.setIfInBounds_toArray] at HL6
  clear hw7 HL5 d0 d1 d2 df0 df1 df2 hl u0 u1 u2 uf0 uf1 uf2 hu r0 r1 r2 r3 r4 r5 r6 f0 f1 f2 f3 f4 f5 f6 zr x0 x1 x2 x3 x4 x5 x6 hlx n1 n2 n3 n4 n5 n6 n7 n8 n9 n10
  obtain ⟨s0, s1, s2, _⟩ := HL6.out.c3 2 rfl
  obtain ⟨t0, t1, t2, t3, t4, t5, t6, _⟩ := HL6.out.c7 3 rfl
  go_wp2
  refine bodyPost_ret (v := .tuple #[rc14 cell a' rs'.length cap' a2 rs2.length c2, x.val, .bool c]) (by simp [results, Tryd.results53, go_sem, s0, s1, s2, t0, t1, t2, t3, t4, t5, t6, rc14, ent_eq]) rfl ?_
  exact ⟨a', cap', rs', x, c, _, rfl, HCP.out, HR.out, HRS.out, P', HPP.out, HL6.out⟩
set_option maxHeartbeats 2000000 in
theorem Drop_ref14_2 (T : List Nat) (w : World) (P : World → Prop) (cell : Int) (a1 : Option Addr) (c1 : Nat) (rs1 : List ME) (a2 : Option Addr) (c2 : Nat) (rs2 : List ME) (i : Int) (hcap : rs2.length ≤ c2) (h : Led T w w [stillT P]) (hP : ∀ W, P W → EntsAt W a2 rs2) (hlen : rs2.length ≤ 1048576) :
    Calls Tryd.prog 53 #[rc14 cell a1 rs1.length c1 a2 rs2.length c2, .int .i64 2, .int .i64 i] w fun e w' => ∃ (a' : Option Addr) (cap' : Nat) (rs' : List ME) (x : ME) (c : Bool) (rest : List Thing), e = .returned (.tuple #[rc14 cell a1 rs1.length c1 a' rs'.length cap', x.val, .bool c]) ∧ rs'.length ≤ cap' ∧ AtRef rs2 i x c ∧ rs' = (if c = true then rs2.eraseIdx i.toNat else rs2) ∧ ∃ P' : World → Prop, (∀ W, P' W → P W ∧ EntsAt W a' rs') ∧ Led T w w' (stillT P' :: rest) := by
  have HP := Lib.hid hP
  have HL0 := Lib.hid h
  clear h hP
  rw [rc14_eq]
  go_enter Tryd.func53, Tryd.ntmps53
  go_wp2_with fail
  refine wp_calls_name ?_
  intro w1 hw1
  have HL1 := Lib.hid (HL0.out.al3 hw1)
  simp only [List.nil_append, List.cons_append] at HL1
  obtain ⟨b7, hb7⟩ : ∃ b, w.heap.size + 1 + 1 = b := ⟨_, rfl⟩
  rw [hb7] at HL1 ⊢
  obtain ⟨b6, hb6⟩ : ∃ b, w.heap.size + 1 = b := ⟨_, rfl⟩
  rw [hb6] at HL1 ⊢
  obtain ⟨b3, hb3⟩ : ∃ b, w.heap.size = b := ⟨_, rfl⟩
  rw [hb3] at HL1 ⊢
  clear hw1 hb7 hb6 hb3 HL0
  refine (side14 _ _).mono ?_
  rintro e w' ⟨rfl, rfl⟩
  rw [show sideOf 2 = 1 from rfl]
  obtain ⟨d0, d1, d2, df0, df1, df2, hl, _, _⟩ := HL1.out.c3 1 rfl
  go_wp2_with fail
  refine (HL1.out.rDrop 0 rfl a2 c2 rs2 i hcap HP.out hlen).mono ?_
  rintro e w2 ⟨a', cap', rs', x, c, rfl, hcp, hR, hrs, P', hP', hL⟩
  have HL2 := Lib.hid hL
  simp only [List.set_cons_zero] at HL2
  have HR := Lib.hid hR
  have HRS := Lib.hid hrs
  have HCP := Lib.hid hcp
  have HPP := Lib.hid hP'
  clear hL hR hrs hcp hP' HL1 d0 d1 d2 df0 df1 df2 hl
  simp only [ent_eq]
  go_upto_region 5 with fail
  refine wp_name ?_
  intro w5 hw5
  have HL4 := Lib.hid (((HL2.out.alloc 58 #[.slice a' rs'.length cap']).alloc 42 #[.int .i64 x.sync, .int .i64 x.thread, .int .i64 x.branch, .int .i64 x.flag, .int .i64 x.v.kind, .int .i64 x.v.num, .slice x.v.addr x.v.parts.length x.v.cap]).via hw5)
  simp only [List.nil_append, List.cons_append, World.size_alloc] at HL4
  obtain ⟨b11, hb11⟩ : ∃ b, w2.heap.size + 1 = b := ⟨_, rfl⟩
  rw [hb11] at HL4 ⊢
  obtain ⟨b10, hb10⟩ : ∃ b, w2.heap.size = b := ⟨_, rfl⟩
  rw [hb10] at HL4 ⊢
  clear hw5 hb11 hb10 HL2
  obtain ⟨d0, d1, d2, df0, df1, df2, hl, _, _⟩ := HL4.out.c3 1 rfl
  obtain ⟨k0, kf, hlk, _, _⟩ := HL4.out.c1 4 rfl
  have n3 := HL4.out.ne 1 4 rfl rfl (by decide)
  have n4 := Ne.symm n3
  go_upto_region 6 with fail
  refine wp_name ?_
  intro w6 hw6
  have HL5 := Lib.hid ((HL4.out.set 1 rfl 2 (.slice a' rs'.length cap')).via hw6)
  simp only [List.set_cons_succ, List.set_cons_zero, List.setIfInBounds_toArray] at HL5
  clear hw6 HL4 d0 d1 d2 df0 df1 df2 hl k0 kf hlk n3 n4
  obtain ⟨d0, d1, d2, df0, df1, df2, hl, _, _⟩ := HL5.out.c3 1 rfl
  obtain ⟨u0, u1, u2, uf0, uf1, uf2, hu, _, _⟩ := HL5.out.c3 2 rfl
  obtain ⟨r0, r1, r2, r3, r4, r5, r6, ⟨f0, f1, f2, f3, f4, f5, f6⟩, zr, _, _⟩ := HL5.out.c7 3 rfl
  obtain ⟨x0, x1, x2, x3, x4, x5, x6, _, hlx, _, _⟩ := HL5.out.c7 5 rfl
  have n1 := HL5.out.ne 1 2 rfl rfl (by decide)
  have n2 := Ne.symm n1
  have n3 := HL5.out.ne 1 3 rfl rfl (by decide)
  have n4 := Ne.symm n3
  have n5 := HL5.out.ne 2 3 rfl rfl (by decide)
  have n6 := Ne.symm n5
  have n7 := HL5.out.ne 2 5 rfl rfl (by decide)
  have n8 := Ne.symm n7
  have n9 := HL5.out.ne 3 5 rfl rfl (by decide)
  have n10 := Ne.symm n9
  go_wp2_with fail
  go_region
  refine exit_nameR (Q := Exit.then _ _) ?_
  intro w7 hw7
  have HL6 := Lib.hid ((((((HL5.out.set 2 rfl 0 (.int .i64 cell)).set 2 rfl 1 (.slice a1 rs1.length c1)).set 2 rfl 2 (.slice a' rs'.length cap')).setEnt 3 rfl x.sync x.thread x.branch x.flag x.v.kind x.v.num (.slice x.v.addr x.v.parts.length x.v.cap))).drew.via hw7)
  simp only [List.set_cons_succ, List.set_cons_zero, List.setIfInBounds_toArray] at HL6
  clear hw7 HL5 d0 d1 d2 df0 df1 df2 hl u0 u1 u2 uf0 uf1 uf2 hu r0 r1 r2 r3 r4 r5 r6 f0 f1 f2 f3 f4 f5 f6 zr x0 x1 x2 x3 x4 x5 x6 hlx n1 n2 n3 n4 n5 n6 n7 n8 n9 n10
  obtain ⟨s0, s1, s2, _⟩ := HL6.out.c3 2 rfl
  obtain ⟨t0, t1, t2, t3, t4, t5, t6, _⟩ := HL6.out.c7 3 rfl
  go_wp2
  refine bodyPost_ret (v := .tuple #[rc14 cell a1 rs1.length c1 a' rs'.length cap', x.val, .bool c]) (by simp [results, Tryd.results53, go_sem, s0, s1, s2, t0, t1, t2, t3, t4, t5, t6, rc14, ent_eq]) rfl ?_
  exact ⟨a', cap', rs', x, c, _, rfl, HCP.out, HR.out, HRS.out, P', HPP.out, HL6.out⟩
set_option maxHeartbeats 2000000 in
theorem Drop_ref14_no (w : World) (cell : Int) (a1 : Option Addr) (n1 c1 : Nat) (a2 : Option Addr) (n2 c2 : Nat) (s i : Int) (h1 : s ≠ 1) (h2 : s ≠ 2) : Calls Tryd.prog 53 #[rc14 cell a1 n1 c1 a2 n2 c2, .int .i64 s, .int .i64 i] w fun e w' => e = .returned (.tuple #[rc14 cell a1 n1 c1 a2 n2 c2, ME.zero.val, .bool false]) ∧ Touch [] w w' := by
  have ho : sideOf s = -1 := by unfold sideOf; rw [if_neg h1, if_neg h2]
  have hbe := build_ent
  simp only [ent_eq, ME.zero, MT.zero, MT.kind, MT.num, MT.addr, MT.parts, MT.cap, List.length_nil] at hbe
  have hzv : ME.zero.val = .agg #[.int .i64 0, .int .i64 0, .int .i64 0, .int .i64 0, .int .i64 0, .int .i64 0, .slice none 0 0] := rfl
  rw [rc14_eq, hzv]
  go_enter Tryd.func53, Tryd.ntmps53
  go_wp2_with fail
  refine wp_calls_name ?_
  intro w1 hw1
  have HL1 := Lib.hid ((Led.nil' w).al3 hw1)
  simp only [List.nil_append, List.cons_append] at HL1
  obtain ⟨b7, hb7⟩ : ∃ b, w.heap.size + 1 + 1 = b := ⟨_, rfl⟩
  rw [hb7] at HL1 ⊢
  obtain ⟨b6, hb6⟩ : ∃ b, w.heap.size + 1 = b := ⟨_, rfl⟩
  rw [hb6] at HL1 ⊢
  obtain ⟨b3, hb3⟩ : ∃ b, w.heap.size = b := ⟨_, rfl⟩
  rw [hb3] at HL1 ⊢
  clear hw1 hb7 hb6 hb3
  refine (side14 _ _).mono ?_
  rintro e w' ⟨rfl, rfl⟩
  rw [ho]
  obtain ⟨d0, d1, d2, df0, df1, df2, hl, _, _⟩ := HL1.out.c3 0 rfl
  obtain ⟨u0, u1, u2, uf0, uf1, uf2, hu, _, _⟩ := HL1.out.c3 1 rfl
  obtain ⟨r0, r1, r2, r3, r4, r5, r6, ⟨f0, f1, f2, f3, f4, f5, f6⟩, zr, _, _⟩ := HL1.out.c7 2 rfl
  have n5 := HL1.out.ne 1 2 rfl rfl (by decide)
  have n6 := Ne.symm n5
  go_wp2
  have HL6 := Lib.hid (((((HL1.out.set 1 rfl 0 (.int .i64 cell)).set 1 rfl 1 (.slice a1 n1 c1)).set 1 rfl 2 (.slice a2 n2 c2)).setEnt 2 rfl 0 0 0 0 0 0 (.slice none 0 0)))
  simp only [List.set_cons_succ, List.set_cons_zero, List.setIfInBounds_toArray] at HL6
  obtain ⟨s0, s1, s2, _⟩ := HL6.out.c3 1 rfl
  obtain ⟨t0, t1, t2, t3, t4, t5, t6, _⟩ := HL6.out.c7 2 rfl
  refine bodyPost_ret (v := .tuple #[.agg #[.int .i64 cell, .slice a1 n1 c1, .slice a2 n2 c2], .agg #[.int .i64 0, .int .i64 0, .int .i64 0, .int .i64 0, .int .i64 0, .int .i64 0, .slice none 0 0], .bool false]) (by simp [results, Tryd.results53, go_sem, s0, s1, s2, t0, t1, t2, t3, t4, t5, t6]) rfl ?_
  exact ⟨rfl, HL6.out.tch⟩
end Go.Proofs.YtihmbgdkllmkaaaDoor

/-
  The law's works() of layer 14 (betrothallaw14/law.go): it returns true, and nothing that was there has turned.
-/
namespace Go.Proofs.YtihmbgdkllmkaaaDoor
open Go.RowKit Go.Shelf
set_option maxRecDepth 100000
set_option linter.unusedVariables false
set_option linter.unusedSimpArgs false
attribute [local go_sem] Oper.semAt_some

theorem one_of {ys : List ME} {a : PE} (h : ys.map ME.plain = [a]) : ∃ y, ys = [y] ∧ y.plain = a := by
  match ys, h with
  | [y], h => simp at h; exact ⟨y, rfl, h⟩
theorem num14 (n : Int) (w : World) : Calls Tryd.prog 10 #[.int .i64 n] w fun e w' => e = .returned (.int .i64 n) ∧ w = w' := by
  go_enter Tryd.func10, Tryd.ntmps10
  go_wp2
  go_ret
  exact ⟨rfl, rfl⟩
theorem build_sync (s : Int) (w : World) : (Instr.build 42 #[(0, .int .i64 s)]).run Tryd.prog w = .ok (ofE s 0).val w := run_build w 42 _ _ (by kernel_rfl)
attribute [local go_sem] build_sync
theorem sync14 (s : Int) (w : World) : Calls Tryd.prog 14 #[.int .i64 s] w fun e w' => e = .returned (ofE s 0).val ∧ Touch [] w w' := by
  have HT := Lib.hid ((Touch.refl [] w).alloc (.cells #[.int .i64 s, .int .i64 0, .int .i64 0, .int .i64 0, .int .i64 0, .int .i64 0, .slice none 0 0] 42))
  go_enter Tryd.func14, Tryd.ntmps14
  go_wp2
  refine bodyPost_ret (v := .agg #[.int .i64 s, .int .i64 0, .int .i64 0, .int .i64 0, .int .i64 0, .int .i64 0, .slice none 0 0]) (by simp [results, Tryd.results14, go_sem]) rfl ⟨rfl, HT.out⟩
theorem zero_valW : ME.zero.val = .agg #[.int .i64 0, .int .i64 0, .int .i64 0, .int .i64 0, .int .i64 0, .int .i64 0, .slice none 0 0] := rfl
/-- A thing that says nothing. -/
theorem Led.addStill {T : List Nat} {w0 w : World} {l : List Thing} (h : Led T w0 w l) : Led T w0 w (l ++ [stillT (fun _ => True)]) :=
  h.new (t' := stillT (fun _ => True)) (f' := []) ⟨by simp, fun _ _ => trivial⟩ ⟨Touch.refl _ _, by simp⟩
theorem Led.sub1 {T : List Nat} {w0 w : World} {a0 a1 a2 a3 a4 a5 a6 a7 a8 a9 a10 t : Thing} (h : Led T w0 w [a0, a1, a2, a3, a4, a5, a6, a7, a8, a9, a10, t]) : Led T w0 w [a0, a1, a2, a3, a4, a5, a6, a7, a8, a9, a10] := h.sel [0, 1, 2, 3, 4, 5, 6, 7, 8, 9, 10] rfl (by decide)
/-- An arena of three cells, of which some are allotted. -/
def ar3 (C : List Nat) (L : List Acc) : Ar := ⟨C, 3, L⟩
/-- A push of a number that may be. -/
theorem Led.pushOk {T : List Nat} {w0 w : World} {l : List Thing} {c : Nat} {a : Int} {M q1 q2 : Nat} {s : Int} {g : Nat} {es : List ME} {P : World → Prop} (h : Led T w0 w l) (i j : Nat) (hi : l[i]? = some (queueT g es)) (hj : l[j]? = some (stillT P)) (hij : i ≠ j) (hc : ChAt w c a M q1 q2) (hq : qOf s q1 q2 = some ⟨g, 0, none⟩) (n : Int) (hn : 0 ≤ n) (hes : es.length < 4096) :
    Calls Tryd.prog 13 #[.pointer (some ⟨c, 0, none⟩), .int .i64 s, (ofE n 0).val] w fun e w' => ∃ y, e = .returned (.int .i64 0) ∧ y.plain = pOf n 0 ∧ Led T w0 w' ((l.set i (queueT g (es ++ [y]))).set j (stillT (fun W => P W ∧ y.v.In W))) := by
  refine (h.chPush i j hi hj hij hc hq (ofE n 0) (fun W _ => MT.in_zero W) (by omega)).mono ?_
  rintro e w' ⟨k, err, ys, rfl, hR, hp, hL⟩
  obtain ⟨rfl, rfl⟩ := hR.all (fun p hp => by simp at hp; rw [hp]; exact pOf_ok hn (Int.le_refl 0)) (by simp; omega)
  obtain ⟨y, rfl, hy⟩ := one_of (a := pOf n 0) hp
  refine ⟨y, rfl, hy, ?_⟩
  have e1 : (fun W => P W ∧ ∀ y' ∈ [y], y'.v.In W) = (fun W => P W ∧ y.v.In W) := by funext W; simp
  rw [e1] at hL
  exact hL
theorem nodes_of {y : ME} {n : Int} (h : y.plain = pOf n 0) : y.v.nodes ≤ 256 := by
  rw [plain_nodes_eq (y := ofE n 0) (show (ofE n 0).plain = y.plain from h.symm)]
  show (1 : Nat) + 0 ≤ 256
  omega
theorem lock_a : (ar3 [0, 0] []).swap 1 0 1 = (ar3 [0, 1] [⟨3, 1, 0, 1, true⟩], ⟨3, 1, 0, 1, true⟩, 0) := rfl
theorem lock_b : (ar3 [0, 1] [⟨3, 1, 0, 1, true⟩]).swap 1 0 1 = (ar3 [0, 1] [⟨3, 1, 0, 1, true⟩, ⟨3, 1, 1, 1, false⟩], ⟨3, 1, 1, 1, false⟩, 0) := rfl
theorem unlock_a : (ar3 [0, 1] [⟨3, 1, 0, 1, true⟩, ⟨3, 1, 1, 1, false⟩]).freeE 1 = 0 ∧ ((ar3 [0, 1] [⟨3, 1, 0, 1, true⟩, ⟨3, 1, 1, 1, false⟩]).swap 1 1 0).1 = ar3 [0, 0] [⟨3, 1, 0, 1, true⟩, ⟨3, 1, 1, 1, false⟩, ⟨3, 1, 1, 0, true⟩] := ⟨rfl, rfl⟩
theorem unlock_b : (ar3 [0, 0] [⟨3, 1, 0, 1, true⟩, ⟨3, 1, 1, 1, false⟩, ⟨3, 1, 1, 0, true⟩]).freeE 1 = 30 ∧ ((ar3 [0, 0] [⟨3, 1, 0, 1, true⟩, ⟨3, 1, 1, 1, false⟩, ⟨3, 1, 1, 0, true⟩]).swap 1 1 0).1 = ar3 [0, 0] [⟨3, 1, 0, 1, true⟩, ⟨3, 1, 1, 1, false⟩, ⟨3, 1, 1, 0, true⟩, ⟨3, 1, 0, 0, false⟩] := ⟨rfl, rfl⟩
set_option maxHeartbeats 4000000 in
theorem works14 (w : World) (hS : SidesAt w) : Calls Tryd.prog 7 #[] w fun e w' => e = .returned (.bool true) ∧ Touch [] w w' := by
  have HS := Lib.hid hS
  clear hS
  go_enter Tryd.func7, Tryd.ntmps7
  go_wp2_with fail
  refine ((Led.nil' w).arNew 3 (by omega) (by omega)).mono ?_
  rintro e w1 ⟨rfl, hh⟩
  have HL1 : Hid (Led [] w w1 [arena w.heap.size (ar3 [] []), stillT (fun _ => True)]) := hh.addStill
  obtain ⟨g, hg⟩ : ∃ b, w.heap.size = b := ⟨_, rfl⟩
  rw [hg] at HL1 ⊢
  clear hh hg
  go_wp2_with fail
  refine (HL1.out.chNew 0 rfl (fun W h => HS.out.touch h.tch) (by decide)).mono ?_
  rintro e w2 ⟨c, M, q1, q2, rfl, hL⟩
  have HL2 : Hid (Led [] w w2 ([arena g (ar3 [0] []), stillT (fun _ => True)] ++ chanL c 0 M q1 q2 [] [])) := hL
  clear hL HL1
  go_wp2_with fail
  refine (HL2.out.chNew 0 rfl (fun W h => HS.out.touch h.tch) (by decide)).mono ?_
  rintro e w3 ⟨d, N, p1, p2, rfl, hL⟩
  have HL : Hid (Led [] w w3 (([arena g (ar3 [0, 0] []), stillT (fun _ => True)] ++ chanL c 0 M q1 q2 [] []) ++ chanL d 1 N p1 p2 [] [])) := hL
  clear hL HL2
  simp only [chanL, List.cons_append, List.nil_append] at HL
  have hA := HL.out.chLock 0 rfl (HL.out.chAt 6 7 rfl rfl) (by decide)
  rw [lock_a] at hA
  go_wp2_with fail
  refine hA.mono ?_
  clear hA
  rintro e w4 ⟨rfl, hL⟩
  have HLN := Lib.hid hL
  simp only [List.set_cons_zero, List.set_cons_succ, List.cons_append, List.nil_append] at HLN
  clear hL HL
  have HL := Lib.hid HLN.out
  clear HLN
  have hA := HL.out.chLock 0 rfl (HL.out.chAt 6 7 rfl rfl) (by decide)
  rw [lock_b] at hA
  go_wp2_with fail
  refine hA.mono ?_
  clear hA
  rintro e w5 ⟨rfl, hL⟩
  have HLN := Lib.hid hL
  simp only [List.set_cons_zero, List.set_cons_succ, List.cons_append, List.nil_append] at HLN
  clear hL HL
  have HL := Lib.hid HLN.out
  clear HLN
  have hA := HL.out.chUnlock 0 rfl (HL.out.chAt 6 7 rfl rfl) (by decide)
  rw [unlock_a.1, unlock_a.2] at hA
  go_wp2_with fail
  refine hA.mono ?_
  clear hA
  rintro e w6 ⟨rfl, hL⟩
  have HLN := Lib.hid hL
  simp only [List.set_cons_zero, List.set_cons_succ, List.cons_append, List.nil_append] at HLN
  clear hL HL
  have HL := Lib.hid HLN.out
  clear HLN
  have hA := HL.out.chUnlock 0 rfl (HL.out.chAt 6 7 rfl rfl) (by decide)
  rw [unlock_b.1, unlock_b.2] at hA
  go_wp2_with fail
  refine hA.mono ?_
  clear hA
  rintro e w7 ⟨rfl, hL⟩
  have HLN := Lib.hid hL
  simp only [List.set_cons_zero, List.set_cons_succ, List.cons_append, List.nil_append] at HLN
  clear hL HL
  have HL := Lib.hid HLN.out
  clear HLN
  go_wp2_with fail
  refine (num14 _ _).mono ?_
  rintro e wn ⟨rfl, rfl⟩
  go_wp2_with fail
  refine (num14 _ _).mono ?_
  rintro e wn ⟨rfl, rfl⟩
  go_wp2_with fail
  refine (num14 _ _).mono ?_
  rintro e wn ⟨rfl, rfl⟩
  go_wp2_with fail
  refine (num14 _ _).mono ?_
  rintro e wn ⟨rfl, rfl⟩
  go_wp2_with fail
  refine (num14 _ _).mono ?_
  rintro e wn ⟨rfl, rfl⟩
  go_wp2_with fail
  refine (num14 _ _).mono ?_
  rintro e wn ⟨rfl, rfl⟩
  go_wp2_with fail
  refine (Cell_ch _ _ _ _ _ _ (HL.out.chAt 2 3 rfl rfl)).mono ?_
  rintro e wn ⟨rfl, rfl⟩
  go_wp2_with fail
  refine (Cell_ch _ _ _ _ _ _ (HL.out.chAt 6 7 rfl rfl)).mono ?_
  rintro e wn ⟨rfl, rfl⟩
  go_wp2_with fail
  refine (num14 _ _).mono ?_
  rintro e wn ⟨rfl, rfl⟩
  go_wp2_with fail
  refine (sync14 _ _).mono ?_
  rintro e w8 ⟨rfl, ht⟩
  have HLN := Lib.hid (HL.out.touch ht)
  clear ht HL
  have HL := Lib.hid HLN.out
  clear HLN
  go_wp2_with fail
  refine (HL.out.pushOk (es := []) 4 1 rfl rfl (by decide) (HL.out.chAt 2 3 rfl rfl) rfl 4 (by decide) (by decide)).mono ?_
  rintro e w9 ⟨y4, rfl, h4, hL⟩
  have HLN := Lib.hid hL
  have H4 := Lib.hid h4
  simp only [List.set_cons_zero, List.set_cons_succ, List.nil_append] at HLN
  clear hL h4 HL
  have HL := Lib.hid HLN.out
  clear HLN
  go_wp2_with fail
  refine (sync14 _ _).mono ?_
  rintro e w10 ⟨rfl, ht⟩
  have HLN := Lib.hid (HL.out.touch ht)
  clear ht HL
  have HL := Lib.hid HLN.out
  clear HLN
  go_wp2_with fail
  refine (HL.out.pushOk (es := [y4]) 4 1 rfl rfl (by decide) (HL.out.chAt 2 3 rfl rfl) rfl 5 (by decide) (by simp)).mono ?_
  rintro e w11 ⟨y5, rfl, h5, hL⟩
  have HLN := Lib.hid hL
  have H5 := Lib.hid h5
  simp only [List.set_cons_zero, List.set_cons_succ, List.nil_append, List.cons_append] at HLN
  clear hL h5 HL
  have HL := Lib.hid HLN.out
  clear HLN
  go_wp2_with fail
  refine (Look_ch w11 c 0 M q1 q2 (HL.out.chAt 2 3 rfl rfl) 1 q1 [y4, y5] 1 rfl (HL.out.qAt 4 rfl) (fun e he => by
    have hs := HL.out.still 1 rfl
    simp at he
    rcases he with rfl | rfl
    · exact ⟨hs.1.2, nodes_of H4.out⟩
    · exact ⟨hs.2, nodes_of H5.out⟩)).mono ?_
  rintro e w12 ⟨x, cc, rfl, hR, _, _, ht⟩
  obtain ⟨rfl, hx5⟩ : cc = true ∧ x.sync = 5 := by
    rcases hR with ⟨h1, _, h2⟩ | ⟨_, h2, _⟩
    · refine ⟨h1, ?_⟩
      have h3 : x.plain = pOf 5 0 := by rw [← H5.out]; simpa using h2.symm
      exact congrArg PE.sync h3
    · exact absurd ⟨by decide, by simp⟩ h2
  have HLN := Lib.hid ((HL.out.touch ht).alloc 42 #[.int .i64 x.sync, .int .i64 x.thread, .int .i64 x.branch, .int .i64 x.flag, .int .i64 x.v.kind, .int .i64 x.v.num, .slice x.v.addr x.v.parts.length x.v.cap])
  have HX5 := Lib.hid hx5
  clear ht hR hx5 HL
  simp only [List.cons_append, List.nil_append] at HLN
  simp only [ent_eq]
  go_wp2_with fail
  refine wp_calls_name ?_
  intro w13 hw13
  have HL := Lib.hid (HLN.out.via hw13)
  obtain ⟨b15, hb15⟩ : ∃ b, w12.heap.size = b := ⟨_, rfl⟩
  rw [hb15] at HL ⊢
  clear hw13 hb15 HLN
  refine (Look_ch w13 c 0 M q1 q2 (HL.out.chAt 2 3 rfl rfl) 2 q2 [] 0 rfl (HL.out.qAt 5 rfl) (by simp)).mono ?_
  rintro e w14 ⟨x2, cc, rfl, hR, _, _, ht⟩
  obtain rfl : cc = false := by
    rcases hR with ⟨_, _, h2⟩ | ⟨h1, _⟩
    · simp at h2
    · exact h1
  have HLN := Lib.hid ((HL.out.touch ht).alloc 42 #[.int .i64 x2.sync, .int .i64 x2.thread, .int .i64 x2.branch, .int .i64 x2.flag, .int .i64 x2.v.kind, .int .i64 x2.v.num, .slice x2.v.addr x2.v.parts.length x2.v.cap])
  clear ht hR HL
  simp only [List.cons_append, List.nil_append] at HLN
  simp only [ent_eq]
  go_wp2_with fail
  refine wp_calls_name ?_
  intro w15 hw15
  have HL := Lib.hid (HLN.out.via hw15).sub1
  clear hw15 HLN
  refine (HL.out.chDrop 4 rfl (HL.out.chAt 2 3 rfl rfl) rfl (by simp) 0).mono ?_
  rintro e w16 ⟨y, b, rfl, hR, hL⟩
  obtain ⟨rfl, rfl⟩ : b = true ∧ y = y4 := by
    rcases hR with ⟨h1, _, h2⟩ | ⟨_, h2, _⟩
    · exact ⟨h1, by simpa using h2.symm⟩
    · exact absurd ⟨by decide, by simp⟩ h2
  have HLN := Lib.hid (hL.alloc 42 #[.int .i64 y.sync, .int .i64 y.thread, .int .i64 y.branch, .int .i64 y.flag, .int .i64 y.v.kind, .int .i64 y.v.num, .slice y.v.addr y.v.parts.length y.v.cap])
  clear hR hL HL
  simp only [List.set_cons_zero, List.set_cons_succ, List.cons_append, List.nil_append, if_true, List.eraseIdx_zero, List.tail_cons] at HLN
  simp only [ent_eq]
  go_wp2_with fail
  refine wp_calls_name ?_
  intro w17 hw17
  have HL := Lib.hid (HLN.out.via hw17)
  obtain ⟨b19, hb19⟩ : ∃ b, w16.heap.size = b := ⟨_, rfl⟩
  rw [hb19] at HL ⊢
  clear hw17 hb19 HLN
  refine (HL.out.chNew 0 rfl (fun W h => HS.out.touch h.tch) (by decide)).mono ?_
  rintro e w18 ⟨c3, M3, r1, r2, rfl, hL⟩
  have HLN : Hid (Led [] w w18 (([arena g (ar3 [0, 0, 0] [⟨3, 1, 0, 1, true⟩, ⟨3, 1, 1, 1, false⟩, ⟨3, 1, 1, 0, true⟩, ⟨3, 1, 0, 0, false⟩]), _, _, _, _, _, _, _, _, _, _, _]) ++ chanL c3 2 M3 r1 r2 [] [])) := hL
  clear hL HL
  have HL := Lib.hid (HLN.out.sub_end)
  clear HLN
  go_wp2_with fail
  refine (HL.out.chNew_full 0 rfl (by decide)).mono ?_
  rintro e w19 ⟨rfl, hL⟩
  have HLN := Lib.hid hL
  clear hL HL
  have HL := Lib.hid HLN.out
  clear HLN
  simp only [List.set_cons_zero] at HL
  go_wp2_with fail
  refine (num14 _ _).mono ?_
  rintro e wn ⟨rfl, rfl⟩
  go_wp2_with fail
  refine (num14 _ _).mono ?_
  rintro e wn ⟨rfl, rfl⟩
  go_wp2_with fail
  refine (num14 _ _).mono ?_
  rintro e wn ⟨rfl, rfl⟩
  obtain ⟨z0, z1, z2, z3, z4, z5, z6, _, hz, _, _⟩ := HL.out.c7 10 rfl
  obtain ⟨v0, v1, v2, v3, v4, v5, v6, _, hv, _, _⟩ := HL.out.c7 11 rfl
  rw [HX5.out] at z0
  rw [show y.sync = 4 from congrArg PE.sync H4.out] at v0
  go_wp2_with fail
  refine (Len_ch _ _ _ _ _ _ (HL.out.chAt 2 3 rfl rfl) 1 q1 [y5] rfl (HL.out.qAt 4 rfl)).mono ?_
  rintro e wn ⟨rfl, rfl⟩
  go_wp2_with fail
  refine (sync14 _ _).mono ?_
  rintro e w20 ⟨rfl, ht⟩
  have HLN := Lib.hid (HL.out.touch ht)
  clear ht HL z0 z1 z2 z3 z4 z5 z6 hz v0 v1 v2 v3 v4 v5 v6 hv
  have HL := Lib.hid HLN.out
  clear HLN
  go_wp2_with fail
  refine (Push_ch_no _ _ _ _ _ _ (HL.out.chAt 2 3 rfl rfl) 0 (ofE 1 0) rfl).mono ?_
  rintro e w21 ⟨rfl, ht⟩
  have HLN := Lib.hid (HL.out.touch ht)
  clear ht HL
  have HL := Lib.hid HLN.out
  clear HLN
  go_wp2_with fail
  refine (num14 _ _).mono ?_
  rintro e wn ⟨rfl, rfl⟩
  go_wp2_with fail
  refine (Other_c _ 1 (HS.out.touch HL.out.tch)).mono ?_
  rintro e wn ⟨rfl, rfl⟩
  rw [show otherOf 1 = 2 from rfl]
  go_wp2_with fail
  refine (num14 _ _).mono ?_
  rintro e wn ⟨rfl, rfl⟩
  go_wp2
  go_ret
  exact ⟨rfl, HL.out.tch⟩
end Go.Proofs.YtihmbgdkllmkaaaDoor

/-
  QueueSame (betrothallaw13/law.go): its walk: for any two entries it returns true, and nothing that was there has turned.
-/
namespace Go.Proofs.YtihmbgdkllmkaaaDoor
open Go.RowKit Go.Shelf
set_option maxRecDepth 100000
set_option linter.unusedVariables false
set_option linter.unusedSimpArgs false

/-- Two boxes of entries, and what is told of a third world. -/
theorem two_ents (x y : ME) (w w' : World) (ht : Touch [] ((w.alloc (.cells #[.int .i64 x.sync, .int .i64 x.thread, .int .i64 x.branch, .int .i64 x.flag, .int .i64 x.v.kind, .int .i64 x.v.num, .slice x.v.addr x.v.parts.length x.v.cap] 42)).alloc (.cells #[.int .i64 y.sync, .int .i64 y.thread, .int .i64 y.branch, .int .i64 y.flag, .int .i64 y.v.kind, .int .i64 y.v.num, .slice y.v.addr y.v.parts.length y.v.cap] 42)) w') :
    EntAt w' w.heap.size 0 x ∧ EntAt w' (w.heap.size + 1) 0 y ∧ w.heap.size < w'.heap.size ∧ w.heap.size + 1 < w'.heap.size := by
  have hL := ((Led.nil' w).al2 rfl).touch ht
  obtain ⟨c0, c1, c2, c3, c4, c5, c6, _, z, _⟩ := hL.c7 0 rfl
  obtain ⟨d0, d1, d2, d3, d4, d5, d6, _, z', _⟩ := hL.c7 1 rfl
  exact ⟨⟨c0, c1, c2, c3, c4, c5, c6⟩, ⟨d0, d1, d2, d3, d4, d5, d6⟩, z, z'⟩
theorem Size_small (t : MT) (w : World) (hin : t.In w) (hno : t.nodes ≤ 256) : Calls Tryd.prog 45 #[t.val] w fun e w' => e = .returned (.int .i64 (t.nodes : Int)) ∧ Touch [] w w' := by
  refine (Size_ref t w hin (by omega)).mono ?_
  rintro e w' ⟨rfl, ht⟩
  exact ⟨by rw [Nat.min_eq_left (by omega)], ht⟩
theorem Size_big (t : MT) (w : World) (hin : t.In w) (hno : t.nodes ≤ 1048576) (h : ¬ t.nodes ≤ 256) : Calls Tryd.prog 45 #[t.val] w fun e w' => e = .returned (.int .i64 257) ∧ Touch [] w w' := by
  refine (Size_ref t w hin hno).mono ?_
  rintro e w' ⟨rfl, ht⟩
  exact ⟨by rw [Nat.min_eq_right (by omega)]; rfl, ht⟩
theorem bool_eq {a b : Bool} {p q : Prop} (ha : a = true ↔ p) (hb : b = true ↔ q) (h : p ↔ q) : a = b := by
  rw [Bool.eq_iff_iff, ha, hb, h]
end Go.Proofs.YtihmbgdkllmkaaaDoor

/-
  few() of law 14 (betrothallaw14/law.go): calls, each with a side, a place and an entry.
-/
namespace Go.Proofs.YtihmbgdkllmkaaaDoor
open Go.RowKit Go.Shelf
set_option maxRecDepth 100000
set_option linter.unusedVariables false
set_option linter.unusedSimpArgs false

/-- A call of law 14: which, a side, a place, an entry. -/
structure C4 where
  what : Int
  side : Int
  i : Int
  e : ME
def C4.cells (x : C4) : List Value := .int .i64 x.what :: .int .i64 x.side :: .int .i64 x.i :: x.e.cells
/-- The cells of one call. -/
def C4At (w : World) (b o : Nat) (x : C4) : Prop := w.cell? ⟨b, o, none⟩ = some (.int .i64 x.what) ∧ w.cell? ⟨b, o + 1, none⟩ = some (.int .i64 x.side) ∧ w.cell? ⟨b, o + 2, none⟩ = some (.int .i64 x.i) ∧ EntAt w b (o + 3) x.e
theorem C4At.touch {w w' : World} {b o : Nat} {x : C4} (h : C4At w b o x) (ht : Touch [] w w') : C4At w' b o x := ⟨ht.cellOf h.1, ht.cellOf h.2.1, ht.cellOf h.2.2.1, h.2.2.2.touch ht⟩
def C4sAt (w : World) (a : Option Addr) (l : List C4) : Prop := ∀ i (hi : i < l.length), ∃ b o, a = some ⟨b, o, none⟩ ∧ b < w.heap.size ∧ C4At w b (o + i * 10) l[i]
theorem C4sAt.touch {w w' : World} {a : Option Addr} {l : List C4} (h : C4sAt w a l) (ht : Touch [] w w') : C4sAt w' a l := fun i hi => by
  obtain ⟨b, o, ha, hb, he⟩ := h i hi
  exact ⟨b, o, ha, Nat.lt_of_lt_of_le hb ht.size, he.touch ht⟩
def C4.val (x : C4) : Value := .agg #[.int .i64 x.what, .int .i64 x.side, .int .i64 x.i, .int .i64 x.e.sync, .int .i64 x.e.thread, .int .i64 x.e.branch, .int .i64 x.e.flag, .int .i64 x.e.v.kind, .int .i64 x.e.v.num, .slice x.e.v.addr x.e.v.parts.length x.e.v.cap]
theorem C4_blk {w : World} {b : Nat} {t : TypeId} {x : C4} (h : Blk w b t #[.int .i64 x.what, .int .i64 x.side, .int .i64 x.i, .int .i64 x.e.sync, .int .i64 x.e.thread, .int .i64 x.e.branch, .int .i64 x.e.flag, .int .i64 x.e.v.kind, .int .i64 x.e.v.num, .slice x.e.v.addr x.e.v.parts.length x.e.v.cap]) : C4At w b 0 x :=
  ⟨h.cell 0, h.cell 1, h.cell 2, h.cell 3, h.cell 4, h.cell 5, h.cell 6, h.cell 7, h.cell 8, h.cell 9⟩
/-- At most so many, of values of 20 parts. -/
def Few14 (l : List C4) (most : Int) : Prop := (l.length : Int) ≤ most ∧ ∀ x ∈ l, x.e.v.nodes ≤ 20
set_option maxHeartbeats 1000000 in
theorem few14 (w : World) (a : Option Addr) (cap : Nat) (l : List C4) (most : Int) (hl : l.length ≤ 9223372036854775807) (ha : C4sAt w a l) (hin : ∀ x ∈ l, x.e.v.In w ∧ x.e.v.nodes ≤ 1048576) :
    Calls Tryd.prog 17 #[.slice a l.length cap, .int .i64 most] w (Tells (Few14 l most) w) := by
  by_cases hm : most < (l.length : Int)
  · go_enter Tryd.func17, Tryd.ntmps17
    go_wp2
    go_ret
    exact Tells.no (fun h => by have := h.1; omega) (Touch.refl [] w)
  · have HA := Lib.hid ha
    have HI := Lib.hid hin
    have hm' : ¬ most < (l.length : Int) := hm
    clear ha hin hm
    go_enter Tryd.func17, Tryd.ntmps17
    go_wp2
    go_loopw [5] (fun i wr => ∃ k : Nat, i = .int .i64 (k : Int) ∧ k ≤ l.length ∧ Hid (∀ j (h : j < l.length), j < k → l[j].e.v.nodes ≤ 20) ∧ Hid (Touch [] w wr)) (fun i _ => l.length - (intOf i).toNat)
    case atStart => exact ⟨0, rfl, Nat.zero_le _, fun j _ h => by omega, Touch.refl [] w⟩
    case round =>
      obtain ⟨k, rfl, hk, HS, HT⟩ := hrel
      have hk0 : (0 : Int) ≤ (k : Int) := by omega
      by_cases hlt : k < l.length
      · have hlt' : (k : Int) < (l.length : Int) := by omega
        obtain ⟨b, o, rfl, hb, c0, cs, ci, c1, c2, c3, c4, c5, c6, c7⟩ := (HA.out.touch HT.out) k hlt
        obtain ⟨hi1, hi2⟩ := HI.out _ (List.getElem_mem hlt)
        have HSZ := Lib.hid (Size_ref l[k].e.v wr (hi1.touch0 HT.out) hi2)
        obtain ⟨y, hy⟩ : ∃ y, l[k] = y := ⟨_, rfl⟩
        rw [hy] at c0 cs ci c1 c2 c3 c4 c5 c6 c7 HSZ
        rw [val_eq] at HSZ
        have HY := Lib.hid hy
        have q5 : wr.cell? ⟨b, o + k * 10 + 3 + 4 + 1, none⟩ = some (.int .i64 y.e.v.num) := c6
        have q6 : wr.cell? ⟨b, o + k * 10 + 3 + 4 + 2, none⟩ = some (.slice y.e.v.addr y.e.v.parts.length y.e.v.cap) := c7
        clear hy hi1 hi2 c6 c7
        by_cases hbig : y.e.v.nodes ≤ 20
        · have hbg : decide ((20 : Int) < ((min y.e.v.nodes 257 : Nat) : Int)) = false := by simp; omega
          obtain ⟨sz, hsz⟩ : ∃ sz, min y.e.v.nodes 257 = sz := ⟨_, rfl⟩
          rw [hsz] at HSZ hbg
          have hs20 : ¬ (20 : Int) < (sz : Int) := by omega
          clear hsz
          go_wp2_with fail
          refine HSZ.out.mono ?_
          rintro e w2 ⟨rfl, ht⟩
          have HT2 := Lib.hid (HT.out.trans' ht)
          clear ht c0 cs ci c1 c2 c3 c4 c5 q5 q6
          go_wp2
          go_roundw
          case rel => exact ⟨k + 1, by go_num, hlt, fun j hj hjk => by
            by_cases hjk2 : j < k
            · exact HS.out j hj hjk2
            · obtain rfl : j = k := by omega
              rw [HY.out]; exact hbig, HT2⟩
          case measure => simp [intOf]; omega
        · obtain ⟨sz, hsz⟩ : ∃ sz, min y.e.v.nodes 257 = sz := ⟨_, rfl⟩
          have hs20 : (20 : Int) < (sz : Int) := by omega
          rw [hsz] at HSZ
          clear hsz
          go_wp2_with fail
          refine HSZ.out.mono ?_
          rintro e w2 ⟨rfl, ht⟩
          have HT2 := Lib.hid (HT.out.trans' ht)
          clear ht c0 cs ci c1 c2 c3 c4 c5 q5 q6
          go_wp2
          go_ret
          exact Tells.no (fun h => hbig (by rw [← HY.out]; exact h.2 _ (List.getElem_mem hlt))) HT2.out
      · have hlt' : ¬ (k : Int) < (l.length : Int) := by omega
        go_wp2
        go_ret
        exact Tells.yes ⟨by omega, fun x hx => by obtain ⟨i, hi, rfl⟩ := List.mem_iff_getElem.1 hx; exact HS.out i hi (by omega)⟩ HT.out
end Go.Proofs.YtihmbgdkllmkaaaDoor

/-
  append inside a fence, and where the new slice lies: no program is in sight.
-/
namespace Go.Proofs.YtihmbgdkllmkaaaDoor
open Go.RowKit

theorem wpListIn_append_run {F : Fence} {n : Nat} {P : Program} (w : World) {ops : Array Oper} {rest : List Oper} {o : Oper} {a : Act} {Q : Exit → Act → World → Prop} (hgd : o.guard = none) (s x : Operand) (t tn : TypeId)
    (ho : o.op = .call { callee := .builtin .append, args := #[s, x], argTypes := #[t, tn] }) (vs vx : Value) (hs : a.eval s = vs) (hx : a.eval x = vx)
    (v' : Value) (w' : World) (hr : (Builtin.append_ #[t, tn] o.type #[vs, vx]).run P w = .ok v' w') (h : wpListIn F n P ops Q rest (a.put o.dst v') w') : wpListIn F n P ops Q (o :: rest) a w := by
  refine wpListIn_plain hgd fun K hK' => ?_
  unfold Oper.wpIn
  refine ⟨?_, ?_⟩
  · simp [Oper.about, ho, resolve, Target.leads, Sem.run_pure]
  · rw [Oper.semAt_plain F _ _ (by rw [ho]; intro c hc'; cases hc')]
    simp [execOp, ho, resolve, invoke, builtin, hs, hx, hr, Result.andThen]
    exact hK' _ _ h

theorem wpListIn_append_lies {F : Fence} {n : Nat} {P : Program} (w : World) {ops : Array Oper} {rest : List Oper} {o : Oper} {a : Act} {Q : Exit → Act → World → Prop} (hgd : o.guard = none) (s x : Operand) (t : TypeId)
    (ho : o.op = .call { callee := .builtin .append, args := #[s, x], argTypes := #[t, t] })
    (e : TypeId) (i : TypeInfo) (z : Value) (size bytes : Nat) (ht : P.underlying t = some (.slice e)) (hi : P.info? e = some i) (hz : i.zero = some z)
    (hsize : i.size = size) (hby : i.bytes = bytes) (hzs : z.cells.size = size) (hsz : 0 < size)
    (v : Value) (k : Nat) (xs : List Value) (hs : a.eval s = v) (hown : w.ownsRow 0 e size v k xs)
    (ad : Addr) (m c : Nat) (news : List Value) (hx : a.eval x = .slice (some ad) m c) (hl : news.length = m * size) (hnews : ∀ j u, news[j]? = some u → w.cell? (ad.add j) = some u) (h1 : ∀ u ∈ news, u.oneCell' = true)
    (hm : 0 < m) (h63 : k + m ≤ maxLen) (hbytes : (k + m) * bytes ≤ 140737488355328)
    (h : ∀ g cap w', w'.ownsRow 0 e size (.slice (some ⟨g, 0, none⟩) (k + m) cap) (k + m) (xs ++ news) → w.grownBy w' v.ownBlock → (v.ownBlock = some g ∨ g = w.heap.size) → g < w'.heap.size → wpListIn F n P ops Q rest (a.put o.dst (.slice (some ⟨g, 0, none⟩) (k + m) cap)) w') : wpListIn F n P ops Q (o :: rest) a w := by
  obtain ⟨g, cap, w', hr, h2, h3, h4, h5⟩ := run_append_lies (P := P) w t o.type 0 e i z size bytes ht hi hz hsize hby hzs hsz v k xs hown ad m c news hl hnews h1 hm h63 hbytes (Nat.zero_le _) _ rfl
  exact wpListIn_append_run w hgd s x t t ho v _ hs hx _ w' hr (h g cap w' h2 h3 h4 h5)

theorem one_new (w : World) (x : Value) (t : TypeId) : ∀ j u, [x][j]? = some u → (w.alloc (.cells #[x] t)).cell? ((⟨w.heap.size, 0, none⟩ : Addr).add j) = some u :=
  World.news_of_block (cs := #[x]) (heap_alloc_new w (.cells #[x] t))
end Go.Proofs.YtihmbgdkllmkaaaDoor

/-
  append of a whole slice (nil, empty or not) onto a row of the call's own. No program is in sight.
-/
namespace Go.Proofs.YtihmbgdkllmkaaaDoor
open Go.RowKit

theorem run_append_src {P : Program} (w : World) (t ty e : TypeId) (i : TypeInfo) (z : Value) (size bytes : Nat) (ht : P.underlying t = some (.slice e)) (hi : P.info? e = some i) (hz : i.zero = some z)
    (hsize : i.size = size) (hby : i.bytes = bytes) (hzs : z.cells.size = size) (hsz : 0 < size)
    (v : Value) (n : Nat) (xs : List Value) (hown : w.ownsRow 0 e size v n xs) (vx : Value) (m : Nat) (news : List Value) (hsrc : w.ownsRow 0 e size vx m news) (h1 : ∀ u ∈ news, u.oneCell' = true)
    (h63 : n + m ≤ maxLen) (hbytes : (n + m) * bytes ≤ 140737488355328) :
    ∃ aa cap w', (Builtin.append_ #[t, t] ty #[v, vx]).run P w = .ok (.slice aa (n + m) cap) w' ∧ w'.ownsRow 0 e size (.slice aa (n + m) cap) (n + m) (xs ++ news) ∧ w.grownBy w' v.ownBlock ∧
      ((Value.slice aa (n + m) cap).ownBlock = v.ownBlock ∨ (Value.slice aa (n + m) cap).ownBlock = some w.heap.size) := by
  rcases hsrc.2 with ⟨rfl, rfl⟩ | ⟨g, cap, cur, rfl, hbg, hg, hnc, hcm, hcs, htake⟩
  · have hn : news = [] := List.eq_nil_of_length_eq_zero (by simpa using hsrc.1)
    subst hn
    rcases hown.2 with ⟨rfl, rfl⟩ | ⟨g, cap, cur, rfl, hbg, hg, hnc, hcm, hcs, htake⟩
    · refine ⟨none, 0, w, ?_, by simpa using hown, World.grownBy.refl w _, .inl rfl⟩
      simp [Builtin.append_, run_underlying ht, sizeOf, typeInfo, hi, Builtin.lenOf, Builtin.firstCells]
    · refine ⟨some ⟨g, 0, none⟩, cap, w, ?_, by simpa using hown, World.grownBy.refl w _, .inl rfl⟩
      simp [Builtin.append_, run_underlying ht, sizeOf, typeInfo, hi, Builtin.lenOf, Builtin.firstCells, storeCells, hnc]
  · obtain ⟨v', w', hr, h2, h3, _, h5⟩ := run_append_own_at (P := P) w 0 t ty e i z size bytes ht hi hz hsize hby hzs hsz v n xs hown ⟨g, 0, none⟩ m cap news hsrc.1 (hsrc.cells (g := g) rfl) h1 h63 hbytes (Nat.zero_le _)
    obtain ⟨aa, c, rfl, _, _⟩ := own_val h2
    exact ⟨aa, c, w', hr, h2, h3, h5⟩

/-- At the operation, in a plain region. -/
theorem wpList_append_src {P : Program} (w : World) {ops : Array Oper} {rest : List Oper} {o : Oper} {a : Act} {Q : Exit → Act → World → Prop} (hgd : o.guard = none) (s x : Operand) (t : TypeId)
    (ho : o.op = .call { callee := .builtin .append, args := #[s, x], argTypes := #[t, t] })
    (e : TypeId) (i : TypeInfo) (z : Value) (size bytes : Nat) (ht : P.underlying t = some (.slice e)) (hi : P.info? e = some i) (hz : i.zero = some z)
    (hsize : i.size = size) (hby : i.bytes = bytes) (hzs : z.cells.size = size) (hsz : 0 < size)
    (v : Value) (n : Nat) (xs : List Value) (hs : a.eval s = v) (hown : w.ownsRow 0 e size v n xs) (vx : Value) (m : Nat) (news : List Value) (hx : a.eval x = vx) (hsrc : w.ownsRow 0 e size vx m news) (h1 : ∀ u ∈ news, u.oneCell' = true)
    (h63 : n + m ≤ maxLen) (hbytes : (n + m) * bytes ≤ 140737488355328)
    (h : ∀ aa cap w', w'.ownsRow 0 e size (.slice aa (n + m) cap) (n + m) (xs ++ news) → w.grownBy w' v.ownBlock → ((Value.slice aa (n + m) cap).ownBlock = v.ownBlock ∨ (Value.slice aa (n + m) cap).ownBlock = some w.heap.size) → wpList P ops Q rest (a.put o.dst (.slice aa (n + m) cap)) w') :
    wpList P ops Q (o :: rest) a w := by
  obtain ⟨aa, cap, w', hr, h2, h3, h4⟩ := run_append_src (P := P) w t o.type e i z size bytes ht hi hz hsize hby hzs hsz v n xs hown vx m news hsrc h1 h63 hbytes
  exact Lib.wpList_append_run w hgd s x t t ho v _ hs hx _ w' hr (h aa cap w' h2 h3 h4)

/-- At a step of a region that draws its order. -/
theorem step_append_src {P : Program} (w : World) {ops : Array Oper} {o : Oper} {a : Act} {K : Act → World → Prop} {Q : Exit → Act → World → Prop} {E : Prop} (hgd : o.guard = none) (s x : Operand) (t : TypeId)
    (ho : o.op = .call { callee := .builtin .append, args := #[s, x], argTypes := #[t, t] })
    (e : TypeId) (i : TypeInfo) (z : Value) (size bytes : Nat) (ht : P.underlying t = some (.slice e)) (hi : P.info? e = some i) (hz : i.zero = some z)
    (hsize : i.size = size) (hby : i.bytes = bytes) (hzs : z.cells.size = size) (hsz : 0 < size)
    (v : Value) (n : Nat) (xs : List Value) (hs : a.eval s = v) (hown : w.ownsRow 0 e size v n xs) (vx : Value) (m : Nat) (news : List Value) (hx : a.eval x = vx) (hsrc : w.ownsRow 0 e size vx m news) (h1 : ∀ u ∈ news, u.oneCell' = true)
    (h63 : n + m ≤ maxLen) (hbytes : (n + m) * bytes ≤ 140737488355328)
    (h : ∀ aa cap w', w'.ownsRow 0 e size (.slice aa (n + m) cap) (n + m) (xs ++ news) → w.grownBy w' v.ownBlock → ((Value.slice aa (n + m) cap).ownBlock = v.ownBlock ∨ (Value.slice aa (n + m) cap).ownBlock = some w.heap.size) → K (a.put o.dst (.slice aa (n + m) cap)) w') :
    if Region.wanted o (yielded ops a.tmps) = true then Oper.wp P o a w K Q else E := by
  obtain ⟨aa, cap, w', hr, h2, h3, h4⟩ := run_append_src (P := P) w t o.type e i z size bytes ht hi hz hsize hby hzs hsz v n xs hown vx m news hsrc h1 h63 hbytes
  rw [if_pos (by simp [Region.wanted, hgd])]
  unfold Oper.wp execOp
  simp only [ho, resolve, invoke, builtin, Sem.run_bind, Sem.run_pure, Result.andThen_ok, List.map_toArray, List.map_cons, List.map_nil, hs, hx, hr]
  exact h aa cap w' h2 h3 h4
end Go.Proofs.YtihmbgdkllmkaaaDoor

/-
  The reference of law 01 (betrothalref01): its arena as a value; New, Alloc, Do, Last.
-/
namespace Go.Proofs.YtihmbgdkllmkaaaDoor
open Go.RowKit Go.Shelf
set_option maxRecDepth 100000
set_option linter.unusedVariables false

/-- The reference's arena as a value. -/
def refV (vc : Value) (most : Nat) (vl : Value) : Value := .agg #[vc, .int .i64 (most : Int), vl]
/-- What its two slices hold. -/
structure RefAt (w : World) (vc vl : Value) (s : Ar) : Prop where
  cel : w.ownsRow 0 34 1 vc s.C.length (words s.C)
  log : w.ownsRow 0 157 5 vl s.L.length (accCells s.L)
  clen : s.C.length ≤ 65536
  most : s.most ≤ 65536
theorem RefAt.touch {w w' : World} {vc vl : Value} {s : Ar} (h : RefAt w vc vl s) (ht : Touch [] w w') : RefAt w' vc vl s := ⟨own_touch h.cel ht (by simp), own_touch h.log ht (by simp), h.clen, h.most⟩
theorem RefAt.keep {w w' : World} {vc vl : Value} {s : Ar} (h : RefAt w vc vl s) (hs : ∀ b ∈ sb vc ++ sb vl, w'.heap[b]? = w.heap[b]?) : RefAt w' vc vl s :=
  ⟨own_keep h.cel (fun b hb => hs b (List.mem_append_left _ hb)), own_keep h.log (fun b hb => hs b (List.mem_append_right _ hb)), h.clen, h.most⟩
theorem words_one (l : List Nat) : ∀ u ∈ words l, u.oneCell' = true := by
  intro u hu
  simp only [words, List.mem_map] at hu
  obtain ⟨n, _, rfl⟩ := hu
  rfl
theorem accs_one (l : List Acc) : ∀ u ∈ accCells l, u.oneCell' = true := by
  intro u hu
  simp only [accCells, List.mem_flatMap] at hu
  obtain ⟨x, _, hx⟩ := hu
  exact acc_one x u hx

theorem own_empty (W : World) (e : TypeId) (size : Nat) : (W.alloc (.cells #[] e)).ownsRow 0 e size (.slice (some ⟨W.heap.size, 0, none⟩) 0 0) 0 [] :=
  ⟨by simp, .inr ⟨W.heap.size, 0, #[], rfl, Nat.zero_le _, heap_alloc_new W _, Nat.le_refl _, by simp [maxLen], by simp, by simp⟩⟩

set_option maxHeartbeats 1000000 in
theorem refAlloc (w : World) (vc vl : Value) (s : Ar) (n : Int) (h : RefAt w vc vl s) : Calls Tryd.prog 48 #[refV vc s.most vl, .int .i64 n] w fun e w' =>
    ∃ vc', e = .returned (.tuple #[refV vc' s.most vl, .int .i64 ((s.allocA n).2.1 : Int), .int .i64 ((s.allocA n).2.2 : Int)]) ∧ RefAt w' vc' vl (s.allocA n).1 ∧ Touch [] w w' ∧ ∀ b ∈ sb vc', b ∈ sb vc ∨ w.heap.size ≤ b := by
  obtain ⟨i0, hi, hz0, hz1, hz2⟩ := info_parts info_uint64
  obtain ⟨aa, cp, rfl, hc1, hc2⟩ := own_val h.cel
  obtain ⟨la, lp, rfl, hl1, hl2⟩ := own_val h.log
  have HA := Lib.hid h
  have hcl := h.clen
  have hml := h.most
  clear h
  unfold refV
  by_cases hn : n < 0
  · have hv : s.allocA n = (s, 0, 2) := by simp [Ar.allocA, hn]
    rw [hv]
    go_enter Tryd.func48, Tryd.ntmps48
    go_wp2
    refine bodyPost_ret (v := .tuple #[.agg #[.slice aa s.C.length cp, .int .i64 (s.most : Int), .slice la s.L.length lp], .int .i64 0, .int .i64 2]) (by simp [results, Tryd.results48, go_sem]) rfl ?_
    refine ⟨_, rfl, HA.out.touch ?_, ?_, fun b hb => .inl hb⟩
    all_goals exact ((Touch.refl [] w).alloc _).alloc _
  · by_cases hf : (s.most : Int) - (s.C.length : Int) < n
    · have hv : s.allocA n = (s, 0, 6) := by simp [Ar.allocA, hn, hf]
      rw [hv]
      go_enter Tryd.func48, Tryd.ntmps48
      go_wp2
      refine bodyPost_ret (v := .tuple #[.agg #[.slice aa s.C.length cp, .int .i64 (s.most : Int), .slice la s.L.length lp], .int .i64 0, .int .i64 6]) (by simp [results, Tryd.results48, go_sem]) rfl ?_
      refine ⟨_, rfl, HA.out.touch ?_, ?_, fun b hb => .inl hb⟩
      all_goals exact ((Touch.refl [] w).alloc _).alloc _
    · obtain ⟨k, rfl⟩ := Int.eq_ofNat_of_zero_le (Int.not_lt.1 hn)
      have hv : s.allocA (k : Int) = ({ s with C := s.C ++ List.replicate k 0 }, s.C.length, 0) := by simp [Ar.allocA, hn, hf]
      rw [hv]
      have hk : s.C.length + k ≤ s.most := by omega
      have HB : Hid (Blk (((w.alloc (.cells #[.slice aa s.C.length cp, .int .i64 (s.most : Int), .slice la s.L.length lp] 55)).alloc (.cells #[.slice none 0 0, .int .i64 0, .slice none 0 0] 55)).alloc (.cells #[] 34)) w.heap.size 55 #[.slice aa s.C.length cp, .int .i64 (s.most : Int), .slice la s.L.length lp]) :=
        ((Blk.new w _ _).alloc _).alloc _
      have HR : Hid (Blk (((w.alloc (.cells #[.slice aa s.C.length cp, .int .i64 (s.most : Int), .slice la s.L.length lp] 55)).alloc (.cells #[.slice none 0 0, .int .i64 0, .slice none 0 0] 55)).alloc (.cells #[] 34)) (w.heap.size + 1) 55 #[.slice none 0 0, .int .i64 0, .slice none 0 0]) := by
        have := (Blk.new (w.alloc (.cells #[.slice aa s.C.length cp, .int .i64 (s.most : Int), .slice la s.L.length lp] 55)) 55 #[.slice none 0 0, .int .i64 0, .slice none 0 0]).alloc (.cells #[] 34)
        rw [World.size_alloc] at this
        exact this
      have HT0 : Hid (Touch [] w (((w.alloc (.cells #[.slice aa s.C.length cp, .int .i64 (s.most : Int), .slice la s.L.length lp] 55)).alloc (.cells #[.slice none 0 0, .int .i64 0, .slice none 0 0] 55)).alloc (.cells #[] 34))) := (((Touch.refl [] w).alloc _).alloc _).alloc _
      have HE : Hid ((((w.alloc (.cells #[.slice aa s.C.length cp, .int .i64 (s.most : Int), .slice la s.L.length lp] 55)).alloc (.cells #[.slice none 0 0, .int .i64 0, .slice none 0 0] 55)).alloc (.cells #[] 34)).ownsRow 0 34 1 (.slice (some ⟨w.heap.size + 1 + 1, 0, none⟩) 0 0) 0 []) := by
        have := own_empty ((w.alloc (.cells #[.slice aa s.C.length cp, .int .i64 (s.most : Int), .slice la s.L.length lp] 55)).alloc (.cells #[.slice none 0 0, .int .i64 0, .slice none 0 0] 55)) 34 1
        rw [World.size_alloc, World.size_alloc] at this
        exact this
      have hbl : w.heap.size < w.heap.size + 1 + 1 := by omega
      clear hv hl1 hl2 hc1 hc2
      go_enter Tryd.func48, Tryd.ntmps48
      go_wp2_with (at_builtin; go_must (refine wpList_append_src _ rfl (.tmp 23) (.tmp 25) 52 rfl 34 i0 (.int .u64 0) 1 8 Tryd.underlying52 hi hz0 hz1 hz2 rfl (by decide) (.slice (some ⟨w.heap.size + 1 + 1, 0, none⟩) 0 0) 0 [] rfl HE.out (.slice aa s.C.length cp) s.C.length (words s.C) rfl (own_touch HA.out.cel HT0.out (by simp)) (words_one _) (by simp only [maxLen]; omega) (by omega) ?_); intro a1 c1 w1 hown hgrow hat; refine Hid.out ?_)
      rw [Nat.zero_add, List.nil_append] at hown
      rw [Nat.zero_add] at hat
      have HT1 : Hid (Touch [] w w1) := HT0.out.grown hgrow (fun j hj => .inr (by simp [Value.ownBlock] at hj; omega))
      have HB1 : Hid (Blk w1 w.heap.size 55 #[.slice aa s.C.length cp, .int .i64 (s.most : Int), .slice la s.L.length lp]) := HB.out.grown hgrow (by simp [Value.ownBlock]; omega)
      have HR1 : Hid (Blk w1 (w.heap.size + 1) 55 #[.slice none 0 0, .int .i64 0, .slice none 0 0]) := HR.out.grown hgrow (by simp [Value.ownBlock])
      have HO1 := Lib.hid hown
      have HN1 : Hid (∀ j ∈ sb (.slice a1 s.C.length c1), w.heap.size ≤ j) := by
        intro j hj
        rcases hat with h1 | h1
        · rw [sb, h1] at hj
          have : j = w.heap.size + 1 + 1 := by simpa [Value.ownBlock] using hj
          omega
        · rw [sb, h1] at hj
          have : j = w.heap.size + 1 + 1 + 1 := by simpa using hj
          omega
      clear hown hgrow hat HB HE HT0 HR
      refine Lib.hid ?_
      go_wp2_with (at_builtin; go_must (refine wpList_append_zeros _ rfl (.tmp 26) (.tmp 27) 52 3 rfl 34 i0 (.int .u64 0) .i64 .i64 Tryd.underlying52 Tryd.underlying3 hi hz0 hz1 hz2 rfl rfl (.slice a1 s.C.length c1) s.C.length (words s.C) rfl HO1.out k rfl (by omega) ?_); intro a2 c2 w2 hown hgrow hat; refine Hid.out ?_)
      have HT2 : Hid (Touch [] w w2) := HT1.out.grown hgrow (fun j hj => .inr (HN1.out j (by simp [sb, hj])))
      have hn0 : w.heap.size ∉ sb (.slice a1 s.C.length c1) := own_ne HO1.out HB1.out (by decide)
      have HB2 : Hid (Blk w2 w.heap.size 55 #[.slice aa s.C.length cp, .int .i64 (s.most : Int), .slice la s.L.length lp]) := HB1.out.grown hgrow (fun hc => hn0 (by simp [sb, ← hc]))
      have HR2 : Hid (Blk w2 (w.heap.size + 1) 55 #[.slice none 0 0, .int .i64 0, .slice none 0 0]) := HR1.out.grown hgrow (fun hc => own_ne HO1.out HR1.out (by decide) (by simp [sb, ← hc]))
      have HO2 := Lib.hid hown
      have HN2 : Hid (∀ j ∈ sb (.slice a2 (s.C.length + k) c2), w.heap.size ≤ j) := by
        intro j hj
        rcases hat with h1 | h1
        · exact HN1.out j (by rw [sb, ← h1]; exact hj)
        · rw [sb, h1] at hj
          have : j = w1.heap.size := by simpa using hj
          have := HT1.out.size
          omega
      have b0 := HB2.out.cell 0
      have b1 := HB2.out.cell 1
      have b2 := HB2.out.cell 2
      have r0 := HR2.out.cell 0
      have r1 := HR2.out.cell 1
      have r2 := HR2.out.cell 2
      have g0 := HB2.out.frozen 0
      have e0 := HR2.out.frozen 0
      have e1 := HR2.out.frozen 1
      have e2 := HR2.out.frozen 2
      simp at b0 b1 b2 r0 r1 r2
      clear hown hgrow hat hn0 HB1 HR1 HT1
      refine Lib.hid ?_
      go_wp2
      have hf := (((HR2.out.far (p := ⟨w.heap.size, 0, none⟩) (by simp) (.slice a2 (s.C.length + k) c2)).set 0 (.slice a2 (s.C.length + k) c2)).set 1 (.int .i64 (s.most : Int))).set 2 (.slice la s.L.length lp)
      have q0 := hf.cell 0
      have q1 := hf.cell 1
      have q2 := hf.cell 2
      simp at q0 q1 q2
      have HTF : Hid (Touch [] w ((((w2.setCell ⟨w.heap.size, 0, none⟩ (.slice a2 (s.C.length + k) c2)).setCell ⟨w.heap.size + 1, 0, none⟩ (.slice a2 (s.C.length + k) c2)).setCell ⟨w.heap.size + 1, 1, none⟩ (.int .i64 (s.most : Int))).setCell ⟨w.heap.size + 1, 2, none⟩ (.slice la s.L.length lp))) :=
        (((HT2.out.setCell ⟨w.heap.size, 0, none⟩ _ (.inr (Nat.le_refl _))).setCell ⟨w.heap.size + 1, 0, none⟩ _ (.inr (Nat.le_succ _))).setCell ⟨w.heap.size + 1, 1, none⟩ _ (.inr (Nat.le_succ _))).setCell ⟨w.heap.size + 1, 2, none⟩ _ (.inr (Nat.le_succ _))
      have n0 := own_ne HO2.out HB2.out (by decide)
      have n1 := own_ne HO2.out HR2.out (by decide)
      refine bodyPost_ret (v := .tuple #[.agg #[.slice a2 (s.C.length + k) c2, .int .i64 (s.most : Int), .slice la s.L.length lp], .int .i64 (s.C.length : Int), .int .i64 0]) (by simp [results, Tryd.results48, go_sem, q0, q1, q2]) rfl ?_
      refine ⟨_, rfl, ⟨?_, own_touch HA.out.log HTF.out (by simp), by simp; omega, hml⟩, HTF.out, fun b hb => .inr (HN2.out b hb)⟩
      have := own_setCell (own_setCell (own_setCell (own_setCell HO2.out ⟨w.heap.size, 0, none⟩ (.slice a2 (s.C.length + k) c2) n0) ⟨w.heap.size + 1, 0, none⟩ (.slice a2 (s.C.length + k) c2) n1) ⟨w.heap.size + 1, 1, none⟩ (.int .i64 (s.most : Int)) n1) ⟨w.heap.size + 1, 2, none⟩ (.slice la s.L.length lp) n1
      simp only [List.length_append, List.length_replicate, words_append, words_replicate]
      exact this
end Go.Proofs.YtihmbgdkllmkaaaDoor

/-
  The reference of law 01: Do.
-/
namespace Go.Proofs.YtihmbgdkllmkaaaDoor
open Go.RowKit Go.Shelf
set_option maxRecDepth 100000
set_option linter.unusedVariables false
set_option linter.unusedSimpArgs false

/-- What an access of the reference tells and leaves. -/
def RefDid (w : World) (vc vl : Value) (s : Ar) (r : Ar × Acc × Nat) (e : Ending) (w' : World) : Prop :=
  ∃ vc' vl', e = .returned (.tuple #[refV vc' s.most vl', r.2.1.val, .int .i64 (r.2.2 : Int)]) ∧ RefAt w' vc' vl' r.1 ∧ Touch [] w w' ∧ ∀ b ∈ sb vc' ++ sb vl', b ∈ sb vc ++ sb vl ∨ w.heap.size ≤ b

set_option maxHeartbeats 1000000 in
theorem refDo_out (w : World) (vc vl : Value) (s : Ar) (op : Nat) (at_ : Int) (x y : Int) (h : RefAt w vc vl s) (hat : ¬ (0 ≤ at_ ∧ at_ < (s.C.length : Int))) (chg : Nat → Nat × Bool) :
    Calls Tryd.prog 86 #[refV vc s.most vl, .int .i64 (op : Int), .int .i64 at_, .int .u64 x, .int .u64 y] w (RefDid w vc vl s (s.doBy op at_ chg)) := by
  obtain ⟨aa, cp, rfl, hc1, hc2⟩ := own_val h.cel
  obtain ⟨la, lp, rfl, hl1, hl2⟩ := own_val h.log
  have HA := Lib.hid h
  have hcl := h.clen
  clear h
  have hv : s.doBy op at_ chg = (s, Acc.zero, 4) := by simp only [Ar.doBy]; rw [if_neg hat]
  rw [hv]
  unfold refV
  clear hv
  go_enter Tryd.func86, Tryd.ntmps86
  by_cases h1 : at_ < 0
  · go_wp2
    refine bodyPost_ret (v := .tuple #[.agg #[.slice aa s.C.length cp, .int .i64 (s.most : Int), .slice la s.L.length lp], Acc.zero.val, .int .i64 4]) (by simp [results, Tryd.results86, go_sem, Acc.val, Acc.zero]) rfl ?_
    exact ⟨_, _, rfl, HA.out.touch ((((Touch.refl [] w).alloc _).alloc _).alloc _), (((Touch.refl [] w).alloc _).alloc _).alloc _, fun b hb => .inl hb⟩
  · have h2 : (s.C.length : Int) ≤ at_ := by omega
    go_wp2
    refine bodyPost_ret (v := .tuple #[.agg #[.slice aa s.C.length cp, .int .i64 (s.most : Int), .slice la s.L.length lp], Acc.zero.val, .int .i64 4]) (by simp [results, Tryd.results86, go_sem, Acc.val, Acc.zero]) rfl ?_
    exact ⟨_, _, rfl, HA.out.touch ((((Touch.refl [] w).alloc _).alloc _).alloc _), (((Touch.refl [] w).alloc _).alloc _).alloc _, fun b hb => .inl hb⟩

theorem own_one (W : World) (x : Acc) : (W.alloc x.box).ownsRow 0 157 5 (.slice (some ⟨W.heap.size, 0, none⟩) 1 1) 1 x.cells :=
  ⟨by simp [Acc.cells], .inr ⟨W.heap.size, 1, x.cells.toArray, rfl, Nat.zero_le _, heap_alloc_new W _, Nat.le_refl _, by simp [maxLen], by simp [Acc.cells], by simp [Acc.cells]⟩⟩


theorem own_box1 {W : World} {g : Nat} {x : Acc} (h : Blk W g 157 x.cells.toArray) : W.ownsRow 0 157 5 (.slice (some ⟨g, 0, none⟩) 1 1) 1 x.cells :=
  ⟨by simp [Acc.cells], .inr ⟨g, 1, x.cells.toArray, rfl, Nat.zero_le _, h, Nat.le_refl _, by simp [maxLen], by simp [Acc.cells], by simp [Acc.cells]⟩⟩
theorem Led.emptyR {T : List Nat} {w0 w : World} {l : List Thing} (h : Led T w0 w l) (e : TypeId) (size : Nat) : Led T w0 (w.alloc (.cells #[] e)) (l ++ [Proofs.YtihmbgdkllmkaaaDoor.row e size (.slice (some ⟨w.heap.size, 0, none⟩) 0 0) 0 []]) :=
  h.new (t' := Proofs.YtihmbgdkllmkaaaDoor.row e size (.slice (some ⟨w.heap.size, 0, none⟩) 0 0) 0 []) ⟨rfl, own_empty w e size⟩ ⟨(Touch.refl [] w).alloc _, fun k hk => .inr (by simp [sb, Value.ownBlock] at hk; omega)⟩
theorem Led.rowgeR {w0 w : World} {l : List Thing} (h : Led [] w0 w l) (i : Nat) {e : TypeId} {size : Nat} {v : Value} {n : Nat} {xs : List Value} (hi : l[i]? = some (Proofs.YtihmbgdkllmkaaaDoor.row e size v n xs)) : ∀ k ∈ sb v, w0.heap.size ≤ k := by
  obtain ⟨f, ⟨hf, _⟩, hg⟩ := h.get i hi
  subst hf
  exact fun k hk => (hg k hk).elim (fun h => by simp at h) id
theorem refDo_close {w WF : World} {vc vl cv lv : Value} {s : Ar} {l : List Thing} {x : Acc} (h : RefAt w vc vl s) (HL : Led [] w WF l) (h3 : l[3]? = some (row 34 1 cv s.C.length (words (s.C.set x.at_ x.new))))
    (h5 : l[5]? = some (row 157 5 lv (s.L.length + 1) (accCells s.L ++ x.cells))) {hq' : x.at_ < s.C.length} (hwas : s.C[x.at_] = x.old) (hq : x.at_ < s.C.length) :
    RefDid w vc vl s (s.acc x.op x.at_ x.new x.did, x, 0) (.returned (.tuple #[refV cv s.most lv, x.val, .int .i64 ((0 : Nat) : Int)])) WF := by
  have hg : s.C.getD x.at_ 0 = x.old := by simp [List.getD, hq, hwas]
  refine ⟨cv, lv, rfl, ⟨?_, ?_, ?_, h.most⟩, Touch.of_below HL.below [], ?_⟩
  · have := HL.row 3 h3
    simpa [Ar.acc] using this
  · have := HL.row 5 h5
    simp only [Ar.acc, hg, List.length_append, List.length_cons, List.length_nil, accCells_append]
    simpa [accCells] using this
  · simpa [Ar.acc] using h.clen
  · intro b hb
    rcases List.mem_append.1 hb with hb | hb
    · exact .inr (HL.rowgeR 3 h3 b hb)
    · exact .inr (HL.rowgeR 5 h5 b hb)

set_option maxHeartbeats 4000000 in
theorem refDo_load (w : World) (vc vl : Value) (s : Ar) (q : Nat) (was : Nat) (x y : Int) (h : RefAt w vc vl s) (hq : q < s.C.length) (HWAS : Hid (s.C[q] = was)) (hL : s.L.length ≤ 1048576) :
    Calls Tryd.prog 86 #[refV vc s.most vl, .int .i64 1, .int .i64 (q : Int), .int .u64 x, .int .u64 y] w (RefDid w vc vl s (s.acc 1 q was true, ⟨1, q, was, was, true⟩, 0)) := by
  obtain ⟨i0, hi, iz0, iz1, iz2⟩ := info_parts info_uint64
  obtain ⟨j0, hj, jz0, jz1, jz2⟩ := info_parts info_access
  obtain ⟨ca, cp, cur, rfl, hcur, hc1, hc2, hc3, hc4⟩ := own_form h.cel (by omega)
  obtain ⟨la, lp, rfl, hl1, hl2⟩ := own_val h.log
  have HA := Lib.hid h
  have hcl := h.clen
  have hcal : ca < w.heap.size := hcur.lt
  clear h hcur hc1 hc2 hc3 hc4 hl1 hl2
  unfold refV
  go_enter Tryd.func86, Tryd.ntmps86
  have hlt1 : ¬ (q : Int) < 0 := by omega
  have hlt2 : ¬ (s.C.length : Int) ≤ (q : Int) := by omega
  go_upto_region 3 with fail
  obtain ⟨W, hW⟩ : ∃ W, ((w.alloc (.cells #[.slice (some ⟨ca, 0, none⟩) s.C.length cp, .int .i64 (s.most : Int), .slice la s.L.length lp] 55)).alloc (.cells #[.slice none 0 0, .int .i64 0, .slice none 0 0] 55)).alloc (.cells #[.int .i64 0, .int .i64 0, .int .u64 0, .int .u64 0, .bool false] 157) = W := ⟨_, rfl⟩
  rw [hW]
  have HTW : Hid (Touch [] w W) := hW ▸ (((Touch.refl [] w).alloc _).alloc _).alloc _
  have HLW := Lib.hid ((((Led.nil' w).alloc 55 #[.slice (some ⟨ca, 0, none⟩) s.C.length cp, .int .i64 (s.most : Int), .slice la s.L.length lp]).alloc 55 #[.slice none 0 0, .int .i64 0, .slice none 0 0]).alloc 157 #[.int .i64 0, .int .i64 0, .int .u64 0, .int .u64 0, .bool false])
  rw [hW] at HLW
  simp only [List.nil_append, List.cons_append, World.size_alloc] at HLW
  have HRW := Lib.hid (HA.out.touch HTW.out)
  have cW : W.cell? ⟨ca, q, none⟩ = some (.int .u64 (was : Int)) := by
    rw [own_cell HRW.out.cel q (by rw [words_length]; exact hq)]
    simp [words, HWAS.out]
  obtain ⟨b0, _, _, _, _, _, hl5⟩ := HLW.out.c3 0 rfl
  have HE := Lib.hid (own_empty W 34 1)
  have HTE := Lib.hid ((Touch.refl [] W).alloc (.cells #[] 34))
  clear hW
  go_upto_region 17 with (at_builtin; go_must (refine wpList_append_src _ rfl (.tmp 51) (.tmp 53) 52 rfl 34 i0 (.int .u64 0) 1 8 Tryd.underlying52 hi iz0 iz1 iz2 rfl (by decide) (.slice (some ⟨W.heap.size, 0, none⟩) 0 0) 0 [] rfl HE.out (.slice (some ⟨ca, 0, none⟩) s.C.length cp) s.C.length (words s.C) rfl (own_touch HRW.out.cel HTE.out (by simp)) (words_one _) (by simp only [maxLen]; omega) (by omega) ?_); intro a1 c1 w1 hown hgrow hat; refine Hid.out ?_)
  rw [Nat.zero_add, List.nil_append] at hown
  rw [Nat.zero_add] at hat
  obtain ⟨g1, c1', cur1, hv1, hcur1, _, _, _, _⟩ := own_form hown (by omega)
  injection hv1 with e1 e2 e3
  subst e1 e3
  have HL1 := Lib.hid ((HLW.out.new (t' := row 34 1 (.slice (some ⟨W.heap.size, 0, none⟩) 0 0) 0 []) ⟨rfl, HE.out⟩ ⟨(Touch.refl [] W).alloc _, fun k hk => .inr (by simp [sb, Value.ownBlock] at hk; omega)⟩).grown 3 rfl hgrow hown hat)
  simp only [List.nil_append, List.cons_append, List.set_cons_succ, List.set_cons_zero] at HL1
  have hwd := HLW.out.size
  have o1 : w1.cell? ⟨g1, q, none⟩ = some (.int .u64 (was : Int)) := by
    rw [own_cell hown q (by rw [words_length]; exact hq)]
    simp [words, HWAS.out]
  have o2 := own_frozen hown q
  obtain ⟨b0, _, _, _, _, _, hl5⟩ := HL1.out.c3 0 rfl
  clear hown hgrow hat hcur1 e2 HLW HE HTE cW HTW HRW
  refine Lib.hid ?_
  go_upto_region 17 with fail
  obtain ⟨V, hV⟩ : ∃ V, (w1.setCell ⟨g1, q, none⟩ (.int .u64 (was : Int))).alloc (.cells #[.int .i64 1, .int .i64 (q : Int), .int .u64 (was : Int), .int .u64 (was : Int), .bool true] 157) = V := ⟨_, rfl⟩
  have HLV := Lib.hid ((HL1.out.rowset 3 rfl q (.int .u64 (was : Int))).alloc 157 #[.int .i64 1, .int .i64 (q : Int), .int .u64 (was : Int), .int .u64 (was : Int), .bool true])
  rw [hV, ← words_set] at HLV
  simp only [List.nil_append, List.cons_append, List.set_cons_succ, List.set_cons_zero, World.size_setCell] at HLV
  obtain ⟨b17, hb17⟩ : ∃ b17, w1.heap.size = b17 := ⟨_, rfl⟩
  rw [hV, hb17]
  rw [hb17] at HLV
  clear hV hb17 o1 o2 HL1 b0 hl5
  obtain ⟨v0, v1, v2, _, _, _, hl5⟩ := HLV.out.c3 0 rfl
  obtain ⟨x0, x1, x2, x3, x4, _, _, _, _, _, hl17⟩ := HLV.out.c5 4 rfl
  obtain ⟨_, _, _, _, _, _, hl10⟩ := HLV.out.c3 1 rfl
  obtain ⟨_, _, _, _, _, _, _, _, _, _, hl11⟩ := HLV.out.c5 2 rfl
  have n1 := HLV.out.ne 4 1 rfl rfl (by decide)
  have n2 := HLV.out.ne 4 2 rfl rfl (by decide)
  have n3 := Ne.symm n1
  have n4 := Ne.symm n2
  have n5 : w.heap.size ≠ w.heap.size + 1 + 1 := by omega
  have n6 : w.heap.size + 1 + 1 ≠ w.heap.size := by omega
  have HRV : Hid (V.ownsRow 0 157 5 (.slice la s.L.length lp) s.L.length (accCells s.L)) := own_keep HA.out.log (fun k hk => HLV.out.below.block k (own_lt HA.out.log k hk))
  -- the three orders in which the makers of memory come up
  have HLa := Lib.hid ((HLV.out.emptyR 157 5).drew)
  have HLb := Lib.hid (((HLV.out.emptyR 157 5).alloc 157 #[.int .i64 1, .int .i64 (q : Int), .int .u64 (was : Int), .int .u64 (was : Int), .bool true]).drew)
  have HLc := Lib.hid ((((HLV.out.alloc 157 #[.int .i64 1, .int .i64 (q : Int), .int .u64 (was : Int), .int .u64 (was : Int), .bool true]).emptyR 157 5).drew).pick [0, 1, 2, 3, 4, 6, 5] (by decide) (by simp))
  simp only [List.nil_append, List.cons_append, World.size_alloc, List.filterMap_cons, List.filterMap_nil, List.getElem?_cons_zero, List.getElem?_cons_succ] at HLa HLb HLc
  have HRa := Lib.hid (own_drew (HRV.out.alloc (.cells #[] 157)))
  have HRb := Lib.hid (own_drew ((HRV.out.alloc (.cells #[] 157)).alloc (.cells #[.int .i64 1, .int .i64 (q : Int), .int .u64 (was : Int), .int .u64 (was : Int), .bool true] 157)))
  have HRc := Lib.hid (own_drew ((HRV.out.alloc (.cells #[.int .i64 1, .int .i64 (q : Int), .int .u64 (was : Int), .int .u64 (was : Int), .bool true] 157)).alloc (.cells #[] 157)))
  go_region_held3 (fun w' => w'.cell? ⟨w.heap.size, 1, none⟩ = some (.int .i64 (s.most : Int)) ∧ w'.cell? ⟨w.heap.size, 2, none⟩ = some (.slice la s.L.length lp) ∧ w'.cell? ⟨b17, 0, none⟩ = some (.int .i64 1) ∧ w'.cell? ⟨b17, 1, none⟩ = some (.int .i64 (q : Int)) ∧ w'.cell? ⟨b17, 2, none⟩ = some (.int .u64 (was : Int)) ∧ w'.cell? ⟨b17, 3, none⟩ = some (.int .u64 (was : Int)) ∧ w'.cell? ⟨b17, 4, none⟩ = some (.bool true)) (go_keep) (first
    | (refine step_append_src _ (by rfl) (.tmp 68) (.tmp 70) 53 (by rfl) 157 j0 _ 5 40 Tryd.underlying53 hj jz0 jz1 jz2 rfl (by decide) (.slice (some ⟨V.heap.size, 0, none⟩) 0 0) 0 [] (by rfl) (HLa.out.row 5 rfl) (.slice la s.L.length lp) s.L.length (accCells s.L) (by rfl) HRa.out (accs_one _) (by simp only [maxLen]; omega) (by omega) ?_; intro a2 c2 w2 hown hgrow hat; simp only [Nat.zero_add, List.nil_append] at hown hat ⊢; have HL2 := Lib.hid (HLa.out.grown 5 rfl hgrow hown hat); simp only [List.set_cons_succ, List.set_cons_zero] at HL2; obtain ⟨v0, v1, v2, _, _, _, hl5⟩ := HL2.out.c3 0 rfl; obtain ⟨x0, x1, x2, x3, x4, _, _, _, _, _, hl17⟩ := HL2.out.c5 4 rfl; obtain ⟨p10, _, _, q10, _, _, hl10⟩ := HL2.out.c3 1 rfl; obtain ⟨p11, _, _, _, _, q11, _, _, _, _, hl11⟩ := HL2.out.c5 2 rfl; clear hown hgrow hat)
    | (refine step_append_src _ (by rfl) (.tmp 68) (.tmp 70) 53 (by rfl) 157 j0 _ 5 40 Tryd.underlying53 hj jz0 jz1 jz2 rfl (by decide) (.slice (some ⟨V.heap.size, 0, none⟩) 0 0) 0 [] (by rfl) (HLb.out.row 5 rfl) (.slice la s.L.length lp) s.L.length (accCells s.L) (by rfl) HRb.out (accs_one _) (by simp only [maxLen]; omega) (by omega) ?_; intro a2 c2 w2 hown hgrow hat; simp only [Nat.zero_add, List.nil_append] at hown hat ⊢; have HL2 := Lib.hid (HLb.out.grown 5 rfl hgrow hown hat); simp only [List.set_cons_succ, List.set_cons_zero] at HL2; obtain ⟨v0, v1, v2, _, _, _, hl5⟩ := HL2.out.c3 0 rfl; obtain ⟨x0, x1, x2, x3, x4, _, _, _, _, _, hl17⟩ := HL2.out.c5 4 rfl; obtain ⟨p10, _, _, q10, _, _, hl10⟩ := HL2.out.c3 1 rfl; obtain ⟨p11, _, _, _, _, q11, _, _, _, _, hl11⟩ := HL2.out.c5 2 rfl; clear hown hgrow hat)
    | (refine step_append_src _ (by rfl) (.tmp 68) (.tmp 70) 53 (by rfl) 157 j0 _ 5 40 Tryd.underlying53 hj jz0 jz1 jz2 rfl (by decide) (.slice (some ⟨V.heap.size + 1, 0, none⟩) 0 0) 0 [] (by rfl) (HLc.out.row 5 rfl) (.slice la s.L.length lp) s.L.length (accCells s.L) (by rfl) HRc.out (accs_one _) (by simp only [maxLen]; omega) (by omega) ?_; intro a2 c2 w2 hown hgrow hat; simp only [Nat.zero_add, List.nil_append] at hown hat ⊢; have HL2 := Lib.hid (HLc.out.grown 5 rfl hgrow hown hat); simp only [List.set_cons_succ, List.set_cons_zero] at HL2; obtain ⟨v0, v1, v2, _, _, _, hl5⟩ := HL2.out.c3 0 rfl; obtain ⟨x0, x1, x2, x3, x4, _, _, _, _, _, hl17⟩ := HL2.out.c5 4 rfl; obtain ⟨p10, _, _, q10, _, _, hl10⟩ := HL2.out.c3 1 rfl; obtain ⟨p11, _, _, _, _, q11, _, _, _, _, hl11⟩ := HL2.out.c5 2 rfl; clear hown hgrow hat)
    | (refine step_append_src _ (by rfl) (.tmp 71) (.tmp 73) 53 (by rfl) 157 j0 _ 5 40 Tryd.underlying53 hj jz0 jz1 jz2 rfl (by decide) (.slice a2 s.L.length c2) s.L.length (accCells s.L) (by rfl) ((HL2.out.alloc _ _).row 5 rfl) (.slice (some ⟨w2.heap.size, 0, none⟩) 1 1) 1 (Acc.cells ⟨1, q, was, was, true⟩) (by rfl) (own_box1 ((HL2.out.alloc _ _).box 6 rfl)) (acc_one _) (by simp only [maxLen]; omega) (by omega) ?_; intro a3 c3 w3 hown hgrow hat; have HL3 := Lib.hid ((HL2.out.alloc _ _).grown 5 rfl hgrow hown hat); simp only [List.set_cons_succ, List.set_cons_zero, List.cons_append, List.nil_append] at HL3; obtain ⟨v0, v1, v2, _, _, _, hl5⟩ := HL3.out.c3 0 rfl; obtain ⟨x0, x1, x2, x3, x4, _, _, _, _, _, hl17⟩ := HL3.out.c5 4 rfl; obtain ⟨p10, p101, p102, q10, q101, q102, hl10⟩ := HL3.out.c3 1 rfl; obtain ⟨p11, p111, p112, p113, p114, q11, q111, q112, q113, q114, hl11⟩ := HL3.out.c5 2 rfl; clear hown hgrow hat)
    | (refine step_append_src _ (by rfl) (.tmp 71) (.tmp 73) 53 (by rfl) 157 j0 _ 5 40 Tryd.underlying53 hj jz0 jz1 jz2 rfl (by decide) (.slice a2 s.L.length c2) s.L.length (accCells s.L) (by rfl) (HL2.out.row 5 rfl) (.slice (some ⟨_, 0, none⟩) 1 1) 1 (Acc.cells ⟨1, q, was, was, true⟩) (by rfl) (own_box1 (HL2.out.box 6 rfl)) (acc_one _) (by simp only [maxLen]; omega) (by omega) ?_; intro a3 c3 w3 hown hgrow hat; have HL3 := Lib.hid (HL2.out.grown 5 rfl hgrow hown hat); simp only [List.set_cons_succ, List.set_cons_zero, List.cons_append, List.nil_append] at HL3; obtain ⟨v0, v1, v2, _, _, _, hl5⟩ := HL3.out.c3 0 rfl; obtain ⟨x0, x1, x2, x3, x4, _, _, _, _, _, hl17⟩ := HL3.out.c5 4 rfl; obtain ⟨p10, p101, p102, q10, q101, q102, hl10⟩ := HL3.out.c3 1 rfl; obtain ⟨p11, p111, p112, p113, p114, q11, q111, q112, q113, q114, hl11⟩ := HL3.out.c5 2 rfl; clear hown hgrow hat))
  all_goals go_wp2
  all_goals have HLF := Lib.hid ((((((((HL3.out.set 1 rfl 0 (.slice (some ⟨g1, 0, none⟩) s.C.length c1)).set 1 rfl 1 (.int .i64 (s.most : Int))).set 1 rfl 2 (.slice a3 (s.L.length + 1) c3)).set 2 rfl 0 (.int .i64 1)).set 2 rfl 1 (.int .i64 (q : Int))).set 2 rfl 2 (.int .u64 (was : Int))).set 2 rfl 3 (.int .u64 (was : Int))).set 2 rfl 4 (.bool true))
  all_goals simp only [List.set_cons_succ, List.set_cons_zero, List.setIfInBounds_toArray] at HLF
  all_goals obtain ⟨y0, y1, y2, _, _, _, _⟩ := HLF.out.c3 1 rfl
  all_goals obtain ⟨z0, z1, z2, z3, z4, _, _, _, _, _, _⟩ := HLF.out.c5 2 rfl
  all_goals refine bodyPost_ret (v := .tuple #[.agg #[.slice (some ⟨g1, 0, none⟩) s.C.length c1, .int .i64 (s.most : Int), .slice a3 (s.L.length + 1) c3], .agg #[.int .i64 1, .int .i64 (q : Int), .int .u64 (was : Int), .int .u64 (was : Int), .bool true], .int .i64 0]) (by simp [results, Tryd.results86, go_sem, y0, y1, y2, z0, z1, z2, z3, z4]) rfl ?_
  all_goals exact refDo_close (x := ⟨1, q, was, was, true⟩) HA.out HLF.out rfl rfl HWAS.out hq
set_option maxHeartbeats 4000000 in
theorem refDo_store (w : World) (vc vl : Value) (s : Ar) (q : Nat) (was : Nat) (v : Nat) (y : Int) (h : RefAt w vc vl s) (hq : q < s.C.length) (HWAS : Hid (s.C[q] = was)) (hL : s.L.length ≤ 1048576) :
    Calls Tryd.prog 86 #[refV vc s.most vl, .int .i64 2, .int .i64 (q : Int), .int .u64 (v : Int), .int .u64 y] w (RefDid w vc vl s (s.acc 2 q v true, ⟨2, q, was, v, true⟩, 0)) := by
  obtain ⟨i0, hi, iz0, iz1, iz2⟩ := info_parts info_uint64
  obtain ⟨j0, hj, jz0, jz1, jz2⟩ := info_parts info_access
  obtain ⟨ca, cp, cur, rfl, hcur, hc1, hc2, hc3, hc4⟩ := own_form h.cel (by omega)
  obtain ⟨la, lp, rfl, hl1, hl2⟩ := own_val h.log
  have HA := Lib.hid h
  have hcl := h.clen
  have hcal : ca < w.heap.size := hcur.lt
  clear h hcur hc1 hc2 hc3 hc4 hl1 hl2
  unfold refV
  go_enter Tryd.func86, Tryd.ntmps86
  have hlt1 : ¬ (q : Int) < 0 := by omega
  have hlt2 : ¬ (s.C.length : Int) ≤ (q : Int) := by omega
  go_upto_region 3 with fail
  obtain ⟨W, hW⟩ : ∃ W, ((w.alloc (.cells #[.slice (some ⟨ca, 0, none⟩) s.C.length cp, .int .i64 (s.most : Int), .slice la s.L.length lp] 55)).alloc (.cells #[.slice none 0 0, .int .i64 0, .slice none 0 0] 55)).alloc (.cells #[.int .i64 0, .int .i64 0, .int .u64 0, .int .u64 0, .bool false] 157) = W := ⟨_, rfl⟩
  rw [hW]
  have HTW : Hid (Touch [] w W) := hW ▸ (((Touch.refl [] w).alloc _).alloc _).alloc _
  have HLW := Lib.hid ((((Led.nil' w).alloc 55 #[.slice (some ⟨ca, 0, none⟩) s.C.length cp, .int .i64 (s.most : Int), .slice la s.L.length lp]).alloc 55 #[.slice none 0 0, .int .i64 0, .slice none 0 0]).alloc 157 #[.int .i64 0, .int .i64 0, .int .u64 0, .int .u64 0, .bool false])
  rw [hW] at HLW
  simp only [List.nil_append, List.cons_append, World.size_alloc] at HLW
  have HRW := Lib.hid (HA.out.touch HTW.out)
  have cW : W.cell? ⟨ca, q, none⟩ = some (.int .u64 (was : Int)) := by
    rw [own_cell HRW.out.cel q (by rw [words_length]; exact hq)]
    simp [words, HWAS.out]
  obtain ⟨b0, _, _, _, _, _, hl5⟩ := HLW.out.c3 0 rfl
  have HE := Lib.hid (own_empty W 34 1)
  have HTE := Lib.hid ((Touch.refl [] W).alloc (.cells #[] 34))
  clear hW
  go_upto_region 17 with (at_builtin; go_must (refine wpList_append_src _ rfl (.tmp 51) (.tmp 53) 52 rfl 34 i0 (.int .u64 0) 1 8 Tryd.underlying52 hi iz0 iz1 iz2 rfl (by decide) (.slice (some ⟨W.heap.size, 0, none⟩) 0 0) 0 [] rfl HE.out (.slice (some ⟨ca, 0, none⟩) s.C.length cp) s.C.length (words s.C) rfl (own_touch HRW.out.cel HTE.out (by simp)) (words_one _) (by simp only [maxLen]; omega) (by omega) ?_); intro a1 c1 w1 hown hgrow hat; refine Hid.out ?_)
  rw [Nat.zero_add, List.nil_append] at hown
  rw [Nat.zero_add] at hat
  obtain ⟨g1, c1', cur1, hv1, hcur1, _, _, _, _⟩ := own_form hown (by omega)
  injection hv1 with e1 e2 e3
  subst e1 e3
  have HL1 := Lib.hid ((HLW.out.new (t' := row 34 1 (.slice (some ⟨W.heap.size, 0, none⟩) 0 0) 0 []) ⟨rfl, HE.out⟩ ⟨(Touch.refl [] W).alloc _, fun k hk => .inr (by simp [sb, Value.ownBlock] at hk; omega)⟩).grown 3 rfl hgrow hown hat)
  simp only [List.nil_append, List.cons_append, List.set_cons_succ, List.set_cons_zero] at HL1
  have hwd := HLW.out.size
  have o1 : w1.cell? ⟨g1, q, none⟩ = some (.int .u64 (was : Int)) := by
    rw [own_cell hown q (by rw [words_length]; exact hq)]
    simp [words, HWAS.out]
  have o2 := own_frozen hown q
  obtain ⟨b0, _, _, _, _, _, hl5⟩ := HL1.out.c3 0 rfl
  clear hown hgrow hat hcur1 e2 HLW HE HTE cW HTW HRW
  refine Lib.hid ?_
  go_upto_region 17 with fail
  obtain ⟨V, hV⟩ : ∃ V, (w1.setCell ⟨g1, q, none⟩ (.int .u64 (v : Int))).alloc (.cells #[.int .i64 2, .int .i64 (q : Int), .int .u64 (was : Int), .int .u64 (v : Int), .bool true] 157) = V := ⟨_, rfl⟩
  have HLV := Lib.hid ((HL1.out.rowset 3 rfl q (.int .u64 (v : Int))).alloc 157 #[.int .i64 2, .int .i64 (q : Int), .int .u64 (was : Int), .int .u64 (v : Int), .bool true])
  rw [hV, ← words_set] at HLV
  simp only [List.nil_append, List.cons_append, List.set_cons_succ, List.set_cons_zero, World.size_setCell] at HLV
  obtain ⟨b17, hb17⟩ : ∃ b17, w1.heap.size = b17 := ⟨_, rfl⟩
  rw [hV, hb17]
  rw [hb17] at HLV
  clear hV hb17 o1 o2 HL1 b0 hl5
  obtain ⟨v0, v1, v2, _, _, _, hl5⟩ := HLV.out.c3 0 rfl
  obtain ⟨x0, x1, x2, x3, x4, _, _, _, _, _, hl17⟩ := HLV.out.c5 4 rfl
  obtain ⟨_, _, _, _, _, _, hl10⟩ := HLV.out.c3 1 rfl
  obtain ⟨_, _, _, _, _, _, _, _, _, _, hl11⟩ := HLV.out.c5 2 rfl
  have n1 := HLV.out.ne 4 1 rfl rfl (by decide)
  have n2 := HLV.out.ne 4 2 rfl rfl (by decide)
  have n3 := Ne.symm n1
  have n4 := Ne.symm n2
  have n5 : w.heap.size ≠ w.heap.size + 1 + 1 := by omega
  have n6 : w.heap.size + 1 + 1 ≠ w.heap.size := by omega
  have HRV : Hid (V.ownsRow 0 157 5 (.slice la s.L.length lp) s.L.length (accCells s.L)) := own_keep HA.out.log (fun k hk => HLV.out.below.block k (own_lt HA.out.log k hk))
  -- the three orders in which the makers of memory come up
  have HLa := Lib.hid ((HLV.out.emptyR 157 5).drew)
  have HLb := Lib.hid (((HLV.out.emptyR 157 5).alloc 157 #[.int .i64 2, .int .i64 (q : Int), .int .u64 (was : Int), .int .u64 (v : Int), .bool true]).drew)
  have HLc := Lib.hid ((((HLV.out.alloc 157 #[.int .i64 2, .int .i64 (q : Int), .int .u64 (was : Int), .int .u64 (v : Int), .bool true]).emptyR 157 5).drew).pick [0, 1, 2, 3, 4, 6, 5] (by decide) (by simp))
  simp only [List.nil_append, List.cons_append, World.size_alloc, List.filterMap_cons, List.filterMap_nil, List.getElem?_cons_zero, List.getElem?_cons_succ] at HLa HLb HLc
  have HRa := Lib.hid (own_drew (HRV.out.alloc (.cells #[] 157)))
  have HRb := Lib.hid (own_drew ((HRV.out.alloc (.cells #[] 157)).alloc (.cells #[.int .i64 2, .int .i64 (q : Int), .int .u64 (was : Int), .int .u64 (v : Int), .bool true] 157)))
  have HRc := Lib.hid (own_drew ((HRV.out.alloc (.cells #[.int .i64 2, .int .i64 (q : Int), .int .u64 (was : Int), .int .u64 (v : Int), .bool true] 157)).alloc (.cells #[] 157)))
  go_region_held3 (fun w' => w'.cell? ⟨w.heap.size, 1, none⟩ = some (.int .i64 (s.most : Int)) ∧ w'.cell? ⟨w.heap.size, 2, none⟩ = some (.slice la s.L.length lp) ∧ w'.cell? ⟨b17, 0, none⟩ = some (.int .i64 2) ∧ w'.cell? ⟨b17, 1, none⟩ = some (.int .i64 (q : Int)) ∧ w'.cell? ⟨b17, 2, none⟩ = some (.int .u64 (was : Int)) ∧ w'.cell? ⟨b17, 3, none⟩ = some (.int .u64 (v : Int)) ∧ w'.cell? ⟨b17, 4, none⟩ = some (.bool true)) (go_keep) (first
    | (refine step_append_src _ (by rfl) (.tmp 68) (.tmp 70) 53 (by rfl) 157 j0 _ 5 40 Tryd.underlying53 hj jz0 jz1 jz2 rfl (by decide) (.slice (some ⟨V.heap.size, 0, none⟩) 0 0) 0 [] (by rfl) (HLa.out.row 5 rfl) (.slice la s.L.length lp) s.L.length (accCells s.L) (by rfl) HRa.out (accs_one _) (by simp only [maxLen]; omega) (by omega) ?_; intro a2 c2 w2 hown hgrow hat; simp only [Nat.zero_add, List.nil_append] at hown hat ⊢; have HL2 := Lib.hid (HLa.out.grown 5 rfl hgrow hown hat); simp only [List.set_cons_succ, List.set_cons_zero] at HL2; obtain ⟨v0, v1, v2, _, _, _, hl5⟩ := HL2.out.c3 0 rfl; obtain ⟨x0, x1, x2, x3, x4, _, _, _, _, _, hl17⟩ := HL2.out.c5 4 rfl; obtain ⟨p10, _, _, q10, _, _, hl10⟩ := HL2.out.c3 1 rfl; obtain ⟨p11, _, _, _, _, q11, _, _, _, _, hl11⟩ := HL2.out.c5 2 rfl; clear hown hgrow hat)
    | (refine step_append_src _ (by rfl) (.tmp 68) (.tmp 70) 53 (by rfl) 157 j0 _ 5 40 Tryd.underlying53 hj jz0 jz1 jz2 rfl (by decide) (.slice (some ⟨V.heap.size, 0, none⟩) 0 0) 0 [] (by rfl) (HLb.out.row 5 rfl) (.slice la s.L.length lp) s.L.length (accCells s.L) (by rfl) HRb.out (accs_one _) (by simp only [maxLen]; omega) (by omega) ?_; intro a2 c2 w2 hown hgrow hat; simp only [Nat.zero_add, List.nil_append] at hown hat ⊢; have HL2 := Lib.hid (HLb.out.grown 5 rfl hgrow hown hat); simp only [List.set_cons_succ, List.set_cons_zero] at HL2; obtain ⟨v0, v1, v2, _, _, _, hl5⟩ := HL2.out.c3 0 rfl; obtain ⟨x0, x1, x2, x3, x4, _, _, _, _, _, hl17⟩ := HL2.out.c5 4 rfl; obtain ⟨p10, _, _, q10, _, _, hl10⟩ := HL2.out.c3 1 rfl; obtain ⟨p11, _, _, _, _, q11, _, _, _, _, hl11⟩ := HL2.out.c5 2 rfl; clear hown hgrow hat)
    | (refine step_append_src _ (by rfl) (.tmp 68) (.tmp 70) 53 (by rfl) 157 j0 _ 5 40 Tryd.underlying53 hj jz0 jz1 jz2 rfl (by decide) (.slice (some ⟨V.heap.size + 1, 0, none⟩) 0 0) 0 [] (by rfl) (HLc.out.row 5 rfl) (.slice la s.L.length lp) s.L.length (accCells s.L) (by rfl) HRc.out (accs_one _) (by simp only [maxLen]; omega) (by omega) ?_; intro a2 c2 w2 hown hgrow hat; simp only [Nat.zero_add, List.nil_append] at hown hat ⊢; have HL2 := Lib.hid (HLc.out.grown 5 rfl hgrow hown hat); simp only [List.set_cons_succ, List.set_cons_zero] at HL2; obtain ⟨v0, v1, v2, _, _, _, hl5⟩ := HL2.out.c3 0 rfl; obtain ⟨x0, x1, x2, x3, x4, _, _, _, _, _, hl17⟩ := HL2.out.c5 4 rfl; obtain ⟨p10, _, _, q10, _, _, hl10⟩ := HL2.out.c3 1 rfl; obtain ⟨p11, _, _, _, _, q11, _, _, _, _, hl11⟩ := HL2.out.c5 2 rfl; clear hown hgrow hat)
    | (refine step_append_src _ (by rfl) (.tmp 71) (.tmp 73) 53 (by rfl) 157 j0 _ 5 40 Tryd.underlying53 hj jz0 jz1 jz2 rfl (by decide) (.slice a2 s.L.length c2) s.L.length (accCells s.L) (by rfl) ((HL2.out.alloc _ _).row 5 rfl) (.slice (some ⟨w2.heap.size, 0, none⟩) 1 1) 1 (Acc.cells ⟨2, q, was, v, true⟩) (by rfl) (own_box1 ((HL2.out.alloc _ _).box 6 rfl)) (acc_one _) (by simp only [maxLen]; omega) (by omega) ?_; intro a3 c3 w3 hown hgrow hat; have HL3 := Lib.hid ((HL2.out.alloc _ _).grown 5 rfl hgrow hown hat); simp only [List.set_cons_succ, List.set_cons_zero, List.cons_append, List.nil_append] at HL3; obtain ⟨v0, v1, v2, _, _, _, hl5⟩ := HL3.out.c3 0 rfl; obtain ⟨x0, x1, x2, x3, x4, _, _, _, _, _, hl17⟩ := HL3.out.c5 4 rfl; obtain ⟨p10, p101, p102, q10, q101, q102, hl10⟩ := HL3.out.c3 1 rfl; obtain ⟨p11, p111, p112, p113, p114, q11, q111, q112, q113, q114, hl11⟩ := HL3.out.c5 2 rfl; clear hown hgrow hat)
    | (refine step_append_src _ (by rfl) (.tmp 71) (.tmp 73) 53 (by rfl) 157 j0 _ 5 40 Tryd.underlying53 hj jz0 jz1 jz2 rfl (by decide) (.slice a2 s.L.length c2) s.L.length (accCells s.L) (by rfl) (HL2.out.row 5 rfl) (.slice (some ⟨_, 0, none⟩) 1 1) 1 (Acc.cells ⟨2, q, was, v, true⟩) (by rfl) (own_box1 (HL2.out.box 6 rfl)) (acc_one _) (by simp only [maxLen]; omega) (by omega) ?_; intro a3 c3 w3 hown hgrow hat; have HL3 := Lib.hid (HL2.out.grown 5 rfl hgrow hown hat); simp only [List.set_cons_succ, List.set_cons_zero, List.cons_append, List.nil_append] at HL3; obtain ⟨v0, v1, v2, _, _, _, hl5⟩ := HL3.out.c3 0 rfl; obtain ⟨x0, x1, x2, x3, x4, _, _, _, _, _, hl17⟩ := HL3.out.c5 4 rfl; obtain ⟨p10, p101, p102, q10, q101, q102, hl10⟩ := HL3.out.c3 1 rfl; obtain ⟨p11, p111, p112, p113, p114, q11, q111, q112, q113, q114, hl11⟩ := HL3.out.c5 2 rfl; clear hown hgrow hat))
  all_goals go_wp2
  all_goals have HLF := Lib.hid ((((((((HL3.out.set 1 rfl 0 (.slice (some ⟨g1, 0, none⟩) s.C.length c1)).set 1 rfl 1 (.int .i64 (s.most : Int))).set 1 rfl 2 (.slice a3 (s.L.length + 1) c3)).set 2 rfl 0 (.int .i64 2)).set 2 rfl 1 (.int .i64 (q : Int))).set 2 rfl 2 (.int .u64 (was : Int))).set 2 rfl 3 (.int .u64 (v : Int))).set 2 rfl 4 (.bool true))
  all_goals simp only [List.set_cons_succ, List.set_cons_zero, List.setIfInBounds_toArray] at HLF
  all_goals obtain ⟨y0, y1, y2, _, _, _, _⟩ := HLF.out.c3 1 rfl
  all_goals obtain ⟨z0, z1, z2, z3, z4, _, _, _, _, _, _⟩ := HLF.out.c5 2 rfl
  all_goals refine bodyPost_ret (v := .tuple #[.agg #[.slice (some ⟨g1, 0, none⟩) s.C.length c1, .int .i64 (s.most : Int), .slice a3 (s.L.length + 1) c3], .agg #[.int .i64 2, .int .i64 (q : Int), .int .u64 (was : Int), .int .u64 (v : Int), .bool true], .int .i64 0]) (by simp [results, Tryd.results86, go_sem, y0, y1, y2, z0, z1, z2, z3, z4]) rfl ?_
  all_goals exact refDo_close (x := ⟨2, q, was, v, true⟩) HA.out HLF.out rfl rfl HWAS.out hq
end Go.Proofs.YtihmbgdkllmkaaaDoor

/-
  The reference of law 01: Do: a swap.
-/
namespace Go.Proofs.YtihmbgdkllmkaaaDoor
open Go.RowKit Go.Shelf
set_option maxRecDepth 100000
set_option linter.unusedVariables false
set_option linter.unusedSimpArgs false


set_option maxHeartbeats 4000000 in
theorem refDo_swapY (w : World) (vc vl : Value) (s : Ar) (q : Nat) (was : Nat) (y : Nat) (h : RefAt w vc vl s) (hq : q < s.C.length) (HWAS : Hid (s.C[q] = was)) (hL : s.L.length ≤ 1048576) :
    Calls Tryd.prog 86 #[refV vc s.most vl, .int .i64 3, .int .i64 (q : Int), .int .u64 (was : Int), .int .u64 (y : Int)] w (RefDid w vc vl s (s.acc 3 q y true, ⟨3, q, was, y, true⟩, 0)) := by
  obtain ⟨i0, hi, iz0, iz1, iz2⟩ := info_parts info_uint64
  obtain ⟨j0, hj, jz0, jz1, jz2⟩ := info_parts info_access
  obtain ⟨ca, cp, cur, rfl, hcur, hc1, hc2, hc3, hc4⟩ := own_form h.cel (by omega)
  obtain ⟨la, lp, rfl, hl1, hl2⟩ := own_val h.log
  have HA := Lib.hid h
  have hcl := h.clen
  have hcal : ca < w.heap.size := hcur.lt
  clear h hcur hc1 hc2 hc3 hc4 hl1 hl2
  unfold refV
  go_enter Tryd.func86, Tryd.ntmps86
  have hlt1 : ¬ (q : Int) < 0 := by omega
  have hlt2 : ¬ (s.C.length : Int) ≤ (q : Int) := by omega
  go_upto_region 3 with fail
  obtain ⟨W, hW⟩ : ∃ W, ((w.alloc (.cells #[.slice (some ⟨ca, 0, none⟩) s.C.length cp, .int .i64 (s.most : Int), .slice la s.L.length lp] 55)).alloc (.cells #[.slice none 0 0, .int .i64 0, .slice none 0 0] 55)).alloc (.cells #[.int .i64 0, .int .i64 0, .int .u64 0, .int .u64 0, .bool false] 157) = W := ⟨_, rfl⟩
  rw [hW]
  have HTW : Hid (Touch [] w W) := hW ▸ (((Touch.refl [] w).alloc _).alloc _).alloc _
  have HLW := Lib.hid ((((Led.nil' w).alloc 55 #[.slice (some ⟨ca, 0, none⟩) s.C.length cp, .int .i64 (s.most : Int), .slice la s.L.length lp]).alloc 55 #[.slice none 0 0, .int .i64 0, .slice none 0 0]).alloc 157 #[.int .i64 0, .int .i64 0, .int .u64 0, .int .u64 0, .bool false])
  rw [hW] at HLW
  simp only [List.nil_append, List.cons_append, World.size_alloc] at HLW
  have HRW := Lib.hid (HA.out.touch HTW.out)
  have cW : W.cell? ⟨ca, q, none⟩ = some (.int .u64 (was : Int)) := by
    rw [own_cell HRW.out.cel q (by rw [words_length]; exact hq)]
    simp [words, HWAS.out]
  obtain ⟨b0, _, _, _, _, _, hl5⟩ := HLW.out.c3 0 rfl
  have HE := Lib.hid (own_empty W 34 1)
  have HTE := Lib.hid ((Touch.refl [] W).alloc (.cells #[] 34))
  clear hW
  go_upto_region 17 with (at_builtin; go_must (refine wpList_append_src _ rfl (.tmp 51) (.tmp 53) 52 rfl 34 i0 (.int .u64 0) 1 8 Tryd.underlying52 hi iz0 iz1 iz2 rfl (by decide) (.slice (some ⟨W.heap.size, 0, none⟩) 0 0) 0 [] rfl HE.out (.slice (some ⟨ca, 0, none⟩) s.C.length cp) s.C.length (words s.C) rfl (own_touch HRW.out.cel HTE.out (by simp)) (words_one _) (by simp only [maxLen]; omega) (by omega) ?_); intro a1 c1 w1 hown hgrow hat; refine Hid.out ?_)
  rw [Nat.zero_add, List.nil_append] at hown
  rw [Nat.zero_add] at hat
  obtain ⟨g1, c1', cur1, hv1, hcur1, _, _, _, _⟩ := own_form hown (by omega)
  injection hv1 with e1 e2 e3
  subst e1 e3
  have HL1 := Lib.hid ((HLW.out.new (t' := row 34 1 (.slice (some ⟨W.heap.size, 0, none⟩) 0 0) 0 []) ⟨rfl, HE.out⟩ ⟨(Touch.refl [] W).alloc _, fun k hk => .inr (by simp [sb, Value.ownBlock] at hk; omega)⟩).grown 3 rfl hgrow hown hat)
  simp only [List.nil_append, List.cons_append, List.set_cons_succ, List.set_cons_zero] at HL1
  have hwd := HLW.out.size
  have o1 : w1.cell? ⟨g1, q, none⟩ = some (.int .u64 (was : Int)) := by
    rw [own_cell hown q (by rw [words_length]; exact hq)]
    simp [words, HWAS.out]
  have o2 := own_frozen hown q
  obtain ⟨b0, _, _, _, _, _, hl5⟩ := HL1.out.c3 0 rfl
  clear hown hgrow hat hcur1 e2 HLW HE HTE cW HTW HRW
  refine Lib.hid ?_
  go_upto_region 17 with fail
  obtain ⟨V, hV⟩ : ∃ V, (w1.setCell ⟨g1, q, none⟩ (.int .u64 (y : Int))).alloc (.cells #[.int .i64 3, .int .i64 (q : Int), .int .u64 (was : Int), .int .u64 (y : Int), .bool true] 157) = V := ⟨_, rfl⟩
  have HLV := Lib.hid ((HL1.out.rowset 3 rfl q (.int .u64 (y : Int))).alloc 157 #[.int .i64 3, .int .i64 (q : Int), .int .u64 (was : Int), .int .u64 (y : Int), .bool true])
  rw [hV, ← words_set] at HLV
  simp only [List.nil_append, List.cons_append, List.set_cons_succ, List.set_cons_zero, World.size_setCell] at HLV
  obtain ⟨b17, hb17⟩ : ∃ b17, w1.heap.size = b17 := ⟨_, rfl⟩
  rw [hV, hb17]
  rw [hb17] at HLV
  clear hV hb17 o1 o2 HL1 b0 hl5
  obtain ⟨v0, v1, v2, _, _, _, hl5⟩ := HLV.out.c3 0 rfl
  obtain ⟨x0, x1, x2, x3, x4, _, _, _, _, _, hl17⟩ := HLV.out.c5 4 rfl
  obtain ⟨_, _, _, _, _, _, hl10⟩ := HLV.out.c3 1 rfl
  obtain ⟨_, _, _, _, _, _, _, _, _, _, hl11⟩ := HLV.out.c5 2 rfl
  have n1 := HLV.out.ne 4 1 rfl rfl (by decide)
  have n2 := HLV.out.ne 4 2 rfl rfl (by decide)
  have n3 := Ne.symm n1
  have n4 := Ne.symm n2
  have n5 : w.heap.size ≠ w.heap.size + 1 + 1 := by omega
  have n6 : w.heap.size + 1 + 1 ≠ w.heap.size := by omega
  have HRV : Hid (V.ownsRow 0 157 5 (.slice la s.L.length lp) s.L.length (accCells s.L)) := own_keep HA.out.log (fun k hk => HLV.out.below.block k (own_lt HA.out.log k hk))
  -- the three orders in which the makers of memory come up
  have HLa := Lib.hid ((HLV.out.emptyR 157 5).drew)
  have HLb := Lib.hid (((HLV.out.emptyR 157 5).alloc 157 #[.int .i64 3, .int .i64 (q : Int), .int .u64 (was : Int), .int .u64 (y : Int), .bool true]).drew)
  have HLc := Lib.hid ((((HLV.out.alloc 157 #[.int .i64 3, .int .i64 (q : Int), .int .u64 (was : Int), .int .u64 (y : Int), .bool true]).emptyR 157 5).drew).pick [0, 1, 2, 3, 4, 6, 5] (by decide) (by simp))
  simp only [List.nil_append, List.cons_append, World.size_alloc, List.filterMap_cons, List.filterMap_nil, List.getElem?_cons_zero, List.getElem?_cons_succ] at HLa HLb HLc
  have HRa := Lib.hid (own_drew (HRV.out.alloc (.cells #[] 157)))
  have HRb := Lib.hid (own_drew ((HRV.out.alloc (.cells #[] 157)).alloc (.cells #[.int .i64 3, .int .i64 (q : Int), .int .u64 (was : Int), .int .u64 (y : Int), .bool true] 157)))
  have HRc := Lib.hid (own_drew ((HRV.out.alloc (.cells #[.int .i64 3, .int .i64 (q : Int), .int .u64 (was : Int), .int .u64 (y : Int), .bool true] 157)).alloc (.cells #[] 157)))
  go_region_held3 (fun w' => w'.cell? ⟨w.heap.size, 1, none⟩ = some (.int .i64 (s.most : Int)) ∧ w'.cell? ⟨w.heap.size, 2, none⟩ = some (.slice la s.L.length lp) ∧ w'.cell? ⟨b17, 0, none⟩ = some (.int .i64 3) ∧ w'.cell? ⟨b17, 1, none⟩ = some (.int .i64 (q : Int)) ∧ w'.cell? ⟨b17, 2, none⟩ = some (.int .u64 (was : Int)) ∧ w'.cell? ⟨b17, 3, none⟩ = some (.int .u64 (y : Int)) ∧ w'.cell? ⟨b17, 4, none⟩ = some (.bool true)) (go_keep) (first
    | (refine step_append_src _ (by rfl) (.tmp 68) (.tmp 70) 53 (by rfl) 157 j0 _ 5 40 Tryd.underlying53 hj jz0 jz1 jz2 rfl (by decide) (.slice (some ⟨V.heap.size, 0, none⟩) 0 0) 0 [] (by rfl) (HLa.out.row 5 rfl) (.slice la s.L.length lp) s.L.length (accCells s.L) (by rfl) HRa.out (accs_one _) (by simp only [maxLen]; omega) (by omega) ?_; intro a2 c2 w2 hown hgrow hat; simp only [Nat.zero_add, List.nil_append] at hown hat ⊢; have HL2 := Lib.hid (HLa.out.grown 5 rfl hgrow hown hat); simp only [List.set_cons_succ, List.set_cons_zero] at HL2; obtain ⟨v0, v1, v2, _, _, _, hl5⟩ := HL2.out.c3 0 rfl; obtain ⟨x0, x1, x2, x3, x4, _, _, _, _, _, hl17⟩ := HL2.out.c5 4 rfl; obtain ⟨p10, _, _, q10, _, _, hl10⟩ := HL2.out.c3 1 rfl; obtain ⟨p11, _, _, _, _, q11, _, _, _, _, hl11⟩ := HL2.out.c5 2 rfl; clear hown hgrow hat)
    | (refine step_append_src _ (by rfl) (.tmp 68) (.tmp 70) 53 (by rfl) 157 j0 _ 5 40 Tryd.underlying53 hj jz0 jz1 jz2 rfl (by decide) (.slice (some ⟨V.heap.size, 0, none⟩) 0 0) 0 [] (by rfl) (HLb.out.row 5 rfl) (.slice la s.L.length lp) s.L.length (accCells s.L) (by rfl) HRb.out (accs_one _) (by simp only [maxLen]; omega) (by omega) ?_; intro a2 c2 w2 hown hgrow hat; simp only [Nat.zero_add, List.nil_append] at hown hat ⊢; have HL2 := Lib.hid (HLb.out.grown 5 rfl hgrow hown hat); simp only [List.set_cons_succ, List.set_cons_zero] at HL2; obtain ⟨v0, v1, v2, _, _, _, hl5⟩ := HL2.out.c3 0 rfl; obtain ⟨x0, x1, x2, x3, x4, _, _, _, _, _, hl17⟩ := HL2.out.c5 4 rfl; obtain ⟨p10, _, _, q10, _, _, hl10⟩ := HL2.out.c3 1 rfl; obtain ⟨p11, _, _, _, _, q11, _, _, _, _, hl11⟩ := HL2.out.c5 2 rfl; clear hown hgrow hat)
    | (refine step_append_src _ (by rfl) (.tmp 68) (.tmp 70) 53 (by rfl) 157 j0 _ 5 40 Tryd.underlying53 hj jz0 jz1 jz2 rfl (by decide) (.slice (some ⟨V.heap.size + 1, 0, none⟩) 0 0) 0 [] (by rfl) (HLc.out.row 5 rfl) (.slice la s.L.length lp) s.L.length (accCells s.L) (by rfl) HRc.out (accs_one _) (by simp only [maxLen]; omega) (by omega) ?_; intro a2 c2 w2 hown hgrow hat; simp only [Nat.zero_add, List.nil_append] at hown hat ⊢; have HL2 := Lib.hid (HLc.out.grown 5 rfl hgrow hown hat); simp only [List.set_cons_succ, List.set_cons_zero] at HL2; obtain ⟨v0, v1, v2, _, _, _, hl5⟩ := HL2.out.c3 0 rfl; obtain ⟨x0, x1, x2, x3, x4, _, _, _, _, _, hl17⟩ := HL2.out.c5 4 rfl; obtain ⟨p10, _, _, q10, _, _, hl10⟩ := HL2.out.c3 1 rfl; obtain ⟨p11, _, _, _, _, q11, _, _, _, _, hl11⟩ := HL2.out.c5 2 rfl; clear hown hgrow hat)
    | (refine step_append_src _ (by rfl) (.tmp 71) (.tmp 73) 53 (by rfl) 157 j0 _ 5 40 Tryd.underlying53 hj jz0 jz1 jz2 rfl (by decide) (.slice a2 s.L.length c2) s.L.length (accCells s.L) (by rfl) ((HL2.out.alloc _ _).row 5 rfl) (.slice (some ⟨w2.heap.size, 0, none⟩) 1 1) 1 (Acc.cells ⟨3, q, was, y, true⟩) (by rfl) (own_box1 ((HL2.out.alloc _ _).box 6 rfl)) (acc_one _) (by simp only [maxLen]; omega) (by omega) ?_; intro a3 c3 w3 hown hgrow hat; have HL3 := Lib.hid ((HL2.out.alloc _ _).grown 5 rfl hgrow hown hat); simp only [List.set_cons_succ, List.set_cons_zero, List.cons_append, List.nil_append] at HL3; obtain ⟨v0, v1, v2, _, _, _, hl5⟩ := HL3.out.c3 0 rfl; obtain ⟨x0, x1, x2, x3, x4, _, _, _, _, _, hl17⟩ := HL3.out.c5 4 rfl; obtain ⟨p10, p101, p102, q10, q101, q102, hl10⟩ := HL3.out.c3 1 rfl; obtain ⟨p11, p111, p112, p113, p114, q11, q111, q112, q113, q114, hl11⟩ := HL3.out.c5 2 rfl; clear hown hgrow hat)
    | (refine step_append_src _ (by rfl) (.tmp 71) (.tmp 73) 53 (by rfl) 157 j0 _ 5 40 Tryd.underlying53 hj jz0 jz1 jz2 rfl (by decide) (.slice a2 s.L.length c2) s.L.length (accCells s.L) (by rfl) (HL2.out.row 5 rfl) (.slice (some ⟨_, 0, none⟩) 1 1) 1 (Acc.cells ⟨3, q, was, y, true⟩) (by rfl) (own_box1 (HL2.out.box 6 rfl)) (acc_one _) (by simp only [maxLen]; omega) (by omega) ?_; intro a3 c3 w3 hown hgrow hat; have HL3 := Lib.hid (HL2.out.grown 5 rfl hgrow hown hat); simp only [List.set_cons_succ, List.set_cons_zero, List.cons_append, List.nil_append] at HL3; obtain ⟨v0, v1, v2, _, _, _, hl5⟩ := HL3.out.c3 0 rfl; obtain ⟨x0, x1, x2, x3, x4, _, _, _, _, _, hl17⟩ := HL3.out.c5 4 rfl; obtain ⟨p10, p101, p102, q10, q101, q102, hl10⟩ := HL3.out.c3 1 rfl; obtain ⟨p11, p111, p112, p113, p114, q11, q111, q112, q113, q114, hl11⟩ := HL3.out.c5 2 rfl; clear hown hgrow hat))
  all_goals go_wp2
  all_goals have HLF := Lib.hid ((((((((HL3.out.set 1 rfl 0 (.slice (some ⟨g1, 0, none⟩) s.C.length c1)).set 1 rfl 1 (.int .i64 (s.most : Int))).set 1 rfl 2 (.slice a3 (s.L.length + 1) c3)).set 2 rfl 0 (.int .i64 3)).set 2 rfl 1 (.int .i64 (q : Int))).set 2 rfl 2 (.int .u64 (was : Int))).set 2 rfl 3 (.int .u64 (y : Int))).set 2 rfl 4 (.bool true))
  all_goals simp only [List.set_cons_succ, List.set_cons_zero, List.setIfInBounds_toArray] at HLF
  all_goals obtain ⟨y0, y1, y2, _, _, _, _⟩ := HLF.out.c3 1 rfl
  all_goals obtain ⟨z0, z1, z2, z3, z4, _, _, _, _, _, _⟩ := HLF.out.c5 2 rfl
  all_goals refine bodyPost_ret (v := .tuple #[.agg #[.slice (some ⟨g1, 0, none⟩) s.C.length c1, .int .i64 (s.most : Int), .slice a3 (s.L.length + 1) c3], .agg #[.int .i64 3, .int .i64 (q : Int), .int .u64 (was : Int), .int .u64 (y : Int), .bool true], .int .i64 0]) (by simp [results, Tryd.results86, go_sem, y0, y1, y2, z0, z1, z2, z3, z4]) rfl ?_
  all_goals exact refDo_close (x := ⟨3, q, was, y, true⟩) HA.out HLF.out rfl rfl HWAS.out hq
set_option maxHeartbeats 4000000 in
theorem refDo_swapN (w : World) (vc vl : Value) (s : Ar) (q : Nat) (was : Nat) (x y : Nat) (hne : ((was : Int) == (x : Int)) = false) (h : RefAt w vc vl s) (hq : q < s.C.length) (HWAS : Hid (s.C[q] = was)) (hL : s.L.length ≤ 1048576) :
    Calls Tryd.prog 86 #[refV vc s.most vl, .int .i64 3, .int .i64 (q : Int), .int .u64 (x : Int), .int .u64 (y : Int)] w (RefDid w vc vl s (s.acc 3 q was false, ⟨3, q, was, was, false⟩, 0)) := by
  obtain ⟨i0, hi, iz0, iz1, iz2⟩ := info_parts info_uint64
  obtain ⟨j0, hj, jz0, jz1, jz2⟩ := info_parts info_access
  obtain ⟨ca, cp, cur, rfl, hcur, hc1, hc2, hc3, hc4⟩ := own_form h.cel (by omega)
  obtain ⟨la, lp, rfl, hl1, hl2⟩ := own_val h.log
  have HA := Lib.hid h
  have hcl := h.clen
  have hcal : ca < w.heap.size := hcur.lt
  clear h hcur hc1 hc2 hc3 hc4 hl1 hl2
  unfold refV
  go_enter Tryd.func86, Tryd.ntmps86
  have hlt1 : ¬ (q : Int) < 0 := by omega
  have hlt2 : ¬ (s.C.length : Int) ≤ (q : Int) := by omega
  go_upto_region 3 with fail
  obtain ⟨W, hW⟩ : ∃ W, ((w.alloc (.cells #[.slice (some ⟨ca, 0, none⟩) s.C.length cp, .int .i64 (s.most : Int), .slice la s.L.length lp] 55)).alloc (.cells #[.slice none 0 0, .int .i64 0, .slice none 0 0] 55)).alloc (.cells #[.int .i64 0, .int .i64 0, .int .u64 0, .int .u64 0, .bool false] 157) = W := ⟨_, rfl⟩
  rw [hW]
  have HTW : Hid (Touch [] w W) := hW ▸ (((Touch.refl [] w).alloc _).alloc _).alloc _
  have HLW := Lib.hid ((((Led.nil' w).alloc 55 #[.slice (some ⟨ca, 0, none⟩) s.C.length cp, .int .i64 (s.most : Int), .slice la s.L.length lp]).alloc 55 #[.slice none 0 0, .int .i64 0, .slice none 0 0]).alloc 157 #[.int .i64 0, .int .i64 0, .int .u64 0, .int .u64 0, .bool false])
  rw [hW] at HLW
  simp only [List.nil_append, List.cons_append, World.size_alloc] at HLW
  have HRW := Lib.hid (HA.out.touch HTW.out)
  have cW : W.cell? ⟨ca, q, none⟩ = some (.int .u64 (was : Int)) := by
    rw [own_cell HRW.out.cel q (by rw [words_length]; exact hq)]
    simp [words, HWAS.out]
  obtain ⟨b0, _, _, _, _, _, hl5⟩ := HLW.out.c3 0 rfl
  have HE := Lib.hid (own_empty W 34 1)
  have HTE := Lib.hid ((Touch.refl [] W).alloc (.cells #[] 34))
  clear hW
  go_upto_region 17 with (at_builtin; go_must (refine wpList_append_src _ rfl (.tmp 51) (.tmp 53) 52 rfl 34 i0 (.int .u64 0) 1 8 Tryd.underlying52 hi iz0 iz1 iz2 rfl (by decide) (.slice (some ⟨W.heap.size, 0, none⟩) 0 0) 0 [] rfl HE.out (.slice (some ⟨ca, 0, none⟩) s.C.length cp) s.C.length (words s.C) rfl (own_touch HRW.out.cel HTE.out (by simp)) (words_one _) (by simp only [maxLen]; omega) (by omega) ?_); intro a1 c1 w1 hown hgrow hat; refine Hid.out ?_)
  rw [Nat.zero_add, List.nil_append] at hown
  rw [Nat.zero_add] at hat
  obtain ⟨g1, c1', cur1, hv1, hcur1, _, _, _, _⟩ := own_form hown (by omega)
  injection hv1 with e1 e2 e3
  subst e1 e3
  have HL1 := Lib.hid ((HLW.out.new (t' := row 34 1 (.slice (some ⟨W.heap.size, 0, none⟩) 0 0) 0 []) ⟨rfl, HE.out⟩ ⟨(Touch.refl [] W).alloc _, fun k hk => .inr (by simp [sb, Value.ownBlock] at hk; omega)⟩).grown 3 rfl hgrow hown hat)
  simp only [List.nil_append, List.cons_append, List.set_cons_succ, List.set_cons_zero] at HL1
  have hwd := HLW.out.size
  have o1 : w1.cell? ⟨g1, q, none⟩ = some (.int .u64 (was : Int)) := by
    rw [own_cell hown q (by rw [words_length]; exact hq)]
    simp [words, HWAS.out]
  have o2 := own_frozen hown q
  obtain ⟨b0, _, _, _, _, _, hl5⟩ := HL1.out.c3 0 rfl
  clear hown hgrow hat hcur1 e2 HLW HE HTE cW HTW HRW
  refine Lib.hid ?_
  go_upto_region 17 with fail
  obtain ⟨V, hV⟩ : ∃ V, (w1.setCell ⟨g1, q, none⟩ (.int .u64 (was : Int))).alloc (.cells #[.int .i64 3, .int .i64 (q : Int), .int .u64 (was : Int), .int .u64 (was : Int), .bool false] 157) = V := ⟨_, rfl⟩
  have HLV := Lib.hid ((HL1.out.rowset 3 rfl q (.int .u64 (was : Int))).alloc 157 #[.int .i64 3, .int .i64 (q : Int), .int .u64 (was : Int), .int .u64 (was : Int), .bool false])
  rw [hV, ← words_set] at HLV
  simp only [List.nil_append, List.cons_append, List.set_cons_succ, List.set_cons_zero, World.size_setCell] at HLV
  obtain ⟨b17, hb17⟩ : ∃ b17, w1.heap.size = b17 := ⟨_, rfl⟩
  rw [hV, hb17]
  rw [hb17] at HLV
  clear hV hb17 o1 o2 HL1 b0 hl5
  obtain ⟨v0, v1, v2, _, _, _, hl5⟩ := HLV.out.c3 0 rfl
  obtain ⟨x0, x1, x2, x3, x4, _, _, _, _, _, hl17⟩ := HLV.out.c5 4 rfl
  obtain ⟨_, _, _, _, _, _, hl10⟩ := HLV.out.c3 1 rfl
  obtain ⟨_, _, _, _, _, _, _, _, _, _, hl11⟩ := HLV.out.c5 2 rfl
  have n1 := HLV.out.ne 4 1 rfl rfl (by decide)
  have n2 := HLV.out.ne 4 2 rfl rfl (by decide)
  have n3 := Ne.symm n1
  have n4 := Ne.symm n2
  have n5 : w.heap.size ≠ w.heap.size + 1 + 1 := by omega
  have n6 : w.heap.size + 1 + 1 ≠ w.heap.size := by omega
  have HRV : Hid (V.ownsRow 0 157 5 (.slice la s.L.length lp) s.L.length (accCells s.L)) := own_keep HA.out.log (fun k hk => HLV.out.below.block k (own_lt HA.out.log k hk))
  -- the three orders in which the makers of memory come up
  have HLa := Lib.hid ((HLV.out.emptyR 157 5).drew)
  have HLb := Lib.hid (((HLV.out.emptyR 157 5).alloc 157 #[.int .i64 3, .int .i64 (q : Int), .int .u64 (was : Int), .int .u64 (was : Int), .bool false]).drew)
  have HLc := Lib.hid ((((HLV.out.alloc 157 #[.int .i64 3, .int .i64 (q : Int), .int .u64 (was : Int), .int .u64 (was : Int), .bool false]).emptyR 157 5).drew).pick [0, 1, 2, 3, 4, 6, 5] (by decide) (by simp))
  simp only [List.nil_append, List.cons_append, World.size_alloc, List.filterMap_cons, List.filterMap_nil, List.getElem?_cons_zero, List.getElem?_cons_succ] at HLa HLb HLc
  have HRa := Lib.hid (own_drew (HRV.out.alloc (.cells #[] 157)))
  have HRb := Lib.hid (own_drew ((HRV.out.alloc (.cells #[] 157)).alloc (.cells #[.int .i64 3, .int .i64 (q : Int), .int .u64 (was : Int), .int .u64 (was : Int), .bool false] 157)))
  have HRc := Lib.hid (own_drew ((HRV.out.alloc (.cells #[.int .i64 3, .int .i64 (q : Int), .int .u64 (was : Int), .int .u64 (was : Int), .bool false] 157)).alloc (.cells #[] 157)))
  go_region_held3 (fun w' => w'.cell? ⟨w.heap.size, 1, none⟩ = some (.int .i64 (s.most : Int)) ∧ w'.cell? ⟨w.heap.size, 2, none⟩ = some (.slice la s.L.length lp) ∧ w'.cell? ⟨b17, 0, none⟩ = some (.int .i64 3) ∧ w'.cell? ⟨b17, 1, none⟩ = some (.int .i64 (q : Int)) ∧ w'.cell? ⟨b17, 2, none⟩ = some (.int .u64 (was : Int)) ∧ w'.cell? ⟨b17, 3, none⟩ = some (.int .u64 (was : Int)) ∧ w'.cell? ⟨b17, 4, none⟩ = some (.bool false)) (go_keep) (first
    | (refine step_append_src _ (by rfl) (.tmp 68) (.tmp 70) 53 (by rfl) 157 j0 _ 5 40 Tryd.underlying53 hj jz0 jz1 jz2 rfl (by decide) (.slice (some ⟨V.heap.size, 0, none⟩) 0 0) 0 [] (by rfl) (HLa.out.row 5 rfl) (.slice la s.L.length lp) s.L.length (accCells s.L) (by rfl) HRa.out (accs_one _) (by simp only [maxLen]; omega) (by omega) ?_; intro a2 c2 w2 hown hgrow hat; simp only [Nat.zero_add, List.nil_append] at hown hat ⊢; have HL2 := Lib.hid (HLa.out.grown 5 rfl hgrow hown hat); simp only [List.set_cons_succ, List.set_cons_zero] at HL2; obtain ⟨v0, v1, v2, _, _, _, hl5⟩ := HL2.out.c3 0 rfl; obtain ⟨x0, x1, x2, x3, x4, _, _, _, _, _, hl17⟩ := HL2.out.c5 4 rfl; obtain ⟨p10, _, _, q10, _, _, hl10⟩ := HL2.out.c3 1 rfl; obtain ⟨p11, _, _, _, _, q11, _, _, _, _, hl11⟩ := HL2.out.c5 2 rfl; clear hown hgrow hat)
    | (refine step_append_src _ (by rfl) (.tmp 68) (.tmp 70) 53 (by rfl) 157 j0 _ 5 40 Tryd.underlying53 hj jz0 jz1 jz2 rfl (by decide) (.slice (some ⟨V.heap.size, 0, none⟩) 0 0) 0 [] (by rfl) (HLb.out.row 5 rfl) (.slice la s.L.length lp) s.L.length (accCells s.L) (by rfl) HRb.out (accs_one _) (by simp only [maxLen]; omega) (by omega) ?_; intro a2 c2 w2 hown hgrow hat; simp only [Nat.zero_add, List.nil_append] at hown hat ⊢; have HL2 := Lib.hid (HLb.out.grown 5 rfl hgrow hown hat); simp only [List.set_cons_succ, List.set_cons_zero] at HL2; obtain ⟨v0, v1, v2, _, _, _, hl5⟩ := HL2.out.c3 0 rfl; obtain ⟨x0, x1, x2, x3, x4, _, _, _, _, _, hl17⟩ := HL2.out.c5 4 rfl; obtain ⟨p10, _, _, q10, _, _, hl10⟩ := HL2.out.c3 1 rfl; obtain ⟨p11, _, _, _, _, q11, _, _, _, _, hl11⟩ := HL2.out.c5 2 rfl; clear hown hgrow hat)
    | (refine step_append_src _ (by rfl) (.tmp 68) (.tmp 70) 53 (by rfl) 157 j0 _ 5 40 Tryd.underlying53 hj jz0 jz1 jz2 rfl (by decide) (.slice (some ⟨V.heap.size + 1, 0, none⟩) 0 0) 0 [] (by rfl) (HLc.out.row 5 rfl) (.slice la s.L.length lp) s.L.length (accCells s.L) (by rfl) HRc.out (accs_one _) (by simp only [maxLen]; omega) (by omega) ?_; intro a2 c2 w2 hown hgrow hat; simp only [Nat.zero_add, List.nil_append] at hown hat ⊢; have HL2 := Lib.hid (HLc.out.grown 5 rfl hgrow hown hat); simp only [List.set_cons_succ, List.set_cons_zero] at HL2; obtain ⟨v0, v1, v2, _, _, _, hl5⟩ := HL2.out.c3 0 rfl; obtain ⟨x0, x1, x2, x3, x4, _, _, _, _, _, hl17⟩ := HL2.out.c5 4 rfl; obtain ⟨p10, _, _, q10, _, _, hl10⟩ := HL2.out.c3 1 rfl; obtain ⟨p11, _, _, _, _, q11, _, _, _, _, hl11⟩ := HL2.out.c5 2 rfl; clear hown hgrow hat)
    | (refine step_append_src _ (by rfl) (.tmp 71) (.tmp 73) 53 (by rfl) 157 j0 _ 5 40 Tryd.underlying53 hj jz0 jz1 jz2 rfl (by decide) (.slice a2 s.L.length c2) s.L.length (accCells s.L) (by rfl) ((HL2.out.alloc _ _).row 5 rfl) (.slice (some ⟨w2.heap.size, 0, none⟩) 1 1) 1 (Acc.cells ⟨3, q, was, was, false⟩) (by rfl) (own_box1 ((HL2.out.alloc _ _).box 6 rfl)) (acc_one _) (by simp only [maxLen]; omega) (by omega) ?_; intro a3 c3 w3 hown hgrow hat; have HL3 := Lib.hid ((HL2.out.alloc _ _).grown 5 rfl hgrow hown hat); simp only [List.set_cons_succ, List.set_cons_zero, List.cons_append, List.nil_append] at HL3; obtain ⟨v0, v1, v2, _, _, _, hl5⟩ := HL3.out.c3 0 rfl; obtain ⟨x0, x1, x2, x3, x4, _, _, _, _, _, hl17⟩ := HL3.out.c5 4 rfl; obtain ⟨p10, p101, p102, q10, q101, q102, hl10⟩ := HL3.out.c3 1 rfl; obtain ⟨p11, p111, p112, p113, p114, q11, q111, q112, q113, q114, hl11⟩ := HL3.out.c5 2 rfl; clear hown hgrow hat)
    | (refine step_append_src _ (by rfl) (.tmp 71) (.tmp 73) 53 (by rfl) 157 j0 _ 5 40 Tryd.underlying53 hj jz0 jz1 jz2 rfl (by decide) (.slice a2 s.L.length c2) s.L.length (accCells s.L) (by rfl) (HL2.out.row 5 rfl) (.slice (some ⟨_, 0, none⟩) 1 1) 1 (Acc.cells ⟨3, q, was, was, false⟩) (by rfl) (own_box1 (HL2.out.box 6 rfl)) (acc_one _) (by simp only [maxLen]; omega) (by omega) ?_; intro a3 c3 w3 hown hgrow hat; have HL3 := Lib.hid (HL2.out.grown 5 rfl hgrow hown hat); simp only [List.set_cons_succ, List.set_cons_zero, List.cons_append, List.nil_append] at HL3; obtain ⟨v0, v1, v2, _, _, _, hl5⟩ := HL3.out.c3 0 rfl; obtain ⟨x0, x1, x2, x3, x4, _, _, _, _, _, hl17⟩ := HL3.out.c5 4 rfl; obtain ⟨p10, p101, p102, q10, q101, q102, hl10⟩ := HL3.out.c3 1 rfl; obtain ⟨p11, p111, p112, p113, p114, q11, q111, q112, q113, q114, hl11⟩ := HL3.out.c5 2 rfl; clear hown hgrow hat))
  all_goals go_wp2
  all_goals have HLF := Lib.hid ((((((((HL3.out.set 1 rfl 0 (.slice (some ⟨g1, 0, none⟩) s.C.length c1)).set 1 rfl 1 (.int .i64 (s.most : Int))).set 1 rfl 2 (.slice a3 (s.L.length + 1) c3)).set 2 rfl 0 (.int .i64 3)).set 2 rfl 1 (.int .i64 (q : Int))).set 2 rfl 2 (.int .u64 (was : Int))).set 2 rfl 3 (.int .u64 (was : Int))).set 2 rfl 4 (.bool false))
  all_goals simp only [List.set_cons_succ, List.set_cons_zero, List.setIfInBounds_toArray] at HLF
  all_goals obtain ⟨y0, y1, y2, _, _, _, _⟩ := HLF.out.c3 1 rfl
  all_goals obtain ⟨z0, z1, z2, z3, z4, _, _, _, _, _, _⟩ := HLF.out.c5 2 rfl
  all_goals refine bodyPost_ret (v := .tuple #[.agg #[.slice (some ⟨g1, 0, none⟩) s.C.length c1, .int .i64 (s.most : Int), .slice a3 (s.L.length + 1) c3], .agg #[.int .i64 3, .int .i64 (q : Int), .int .u64 (was : Int), .int .u64 (was : Int), .bool false], .int .i64 0]) (by simp [results, Tryd.results86, go_sem, y0, y1, y2, z0, z1, z2, z3, z4]) rfl ?_
  all_goals exact refDo_close (x := ⟨3, q, was, was, false⟩) HA.out HLF.out rfl rfl HWAS.out hq
end Go.Proofs.YtihmbgdkllmkaaaDoor

/-
  The reference of law 01: Do: an addition; all four.
-/
namespace Go.Proofs.YtihmbgdkllmkaaaDoor
open Go.RowKit Go.Shelf
set_option maxRecDepth 100000
set_option linter.unusedVariables false
set_option linter.unusedSimpArgs false


set_option maxHeartbeats 4000000 in
theorem refDo_add (w : World) (vc vl : Value) (s : Ar) (q : Nat) (was : Nat) (n now : Nat) (y : Int) (hnow : IntKind.u64.wrap ((was : Int) + (n : Int)) = (now : Int)) (h : RefAt w vc vl s) (hq : q < s.C.length) (HWAS : Hid (s.C[q] = was)) (hL : s.L.length ≤ 1048576) :
    Calls Tryd.prog 86 #[refV vc s.most vl, .int .i64 4, .int .i64 (q : Int), .int .u64 (n : Int), .int .u64 y] w (RefDid w vc vl s (s.acc 4 q now true, ⟨4, q, was, now, true⟩, 0)) := by
  obtain ⟨i0, hi, iz0, iz1, iz2⟩ := info_parts info_uint64
  obtain ⟨j0, hj, jz0, jz1, jz2⟩ := info_parts info_access
  obtain ⟨ca, cp, cur, rfl, hcur, hc1, hc2, hc3, hc4⟩ := own_form h.cel (by omega)
  obtain ⟨la, lp, rfl, hl1, hl2⟩ := own_val h.log
  have HA := Lib.hid h
  have hcl := h.clen
  have hcal : ca < w.heap.size := hcur.lt
  clear h hcur hc1 hc2 hc3 hc4 hl1 hl2
  unfold refV
  go_enter Tryd.func86, Tryd.ntmps86
  have hlt1 : ¬ (q : Int) < 0 := by omega
  have hlt2 : ¬ (s.C.length : Int) ≤ (q : Int) := by omega
  go_upto_region 3 with fail
  obtain ⟨W, hW⟩ : ∃ W, ((w.alloc (.cells #[.slice (some ⟨ca, 0, none⟩) s.C.length cp, .int .i64 (s.most : Int), .slice la s.L.length lp] 55)).alloc (.cells #[.slice none 0 0, .int .i64 0, .slice none 0 0] 55)).alloc (.cells #[.int .i64 0, .int .i64 0, .int .u64 0, .int .u64 0, .bool false] 157) = W := ⟨_, rfl⟩
  rw [hW]
  have HTW : Hid (Touch [] w W) := hW ▸ (((Touch.refl [] w).alloc _).alloc _).alloc _
  have HLW := Lib.hid ((((Led.nil' w).alloc 55 #[.slice (some ⟨ca, 0, none⟩) s.C.length cp, .int .i64 (s.most : Int), .slice la s.L.length lp]).alloc 55 #[.slice none 0 0, .int .i64 0, .slice none 0 0]).alloc 157 #[.int .i64 0, .int .i64 0, .int .u64 0, .int .u64 0, .bool false])
  rw [hW] at HLW
  simp only [List.nil_append, List.cons_append, World.size_alloc] at HLW
  have HRW := Lib.hid (HA.out.touch HTW.out)
  have cW : W.cell? ⟨ca, q, none⟩ = some (.int .u64 (was : Int)) := by
    rw [own_cell HRW.out.cel q (by rw [words_length]; exact hq)]
    simp [words, HWAS.out]
  obtain ⟨b0, _, _, _, _, _, hl5⟩ := HLW.out.c3 0 rfl
  have HE := Lib.hid (own_empty W 34 1)
  have HTE := Lib.hid ((Touch.refl [] W).alloc (.cells #[] 34))
  clear hW
  go_upto_region 17 with (at_builtin; go_must (refine wpList_append_src _ rfl (.tmp 51) (.tmp 53) 52 rfl 34 i0 (.int .u64 0) 1 8 Tryd.underlying52 hi iz0 iz1 iz2 rfl (by decide) (.slice (some ⟨W.heap.size, 0, none⟩) 0 0) 0 [] rfl HE.out (.slice (some ⟨ca, 0, none⟩) s.C.length cp) s.C.length (words s.C) rfl (own_touch HRW.out.cel HTE.out (by simp)) (words_one _) (by simp only [maxLen]; omega) (by omega) ?_); intro a1 c1 w1 hown hgrow hat; refine Hid.out ?_)
  rw [Nat.zero_add, List.nil_append] at hown
  rw [Nat.zero_add] at hat
  obtain ⟨g1, c1', cur1, hv1, hcur1, _, _, _, _⟩ := own_form hown (by omega)
  injection hv1 with e1 e2 e3
  subst e1 e3
  have HL1 := Lib.hid ((HLW.out.new (t' := row 34 1 (.slice (some ⟨W.heap.size, 0, none⟩) 0 0) 0 []) ⟨rfl, HE.out⟩ ⟨(Touch.refl [] W).alloc _, fun k hk => .inr (by simp [sb, Value.ownBlock] at hk; omega)⟩).grown 3 rfl hgrow hown hat)
  simp only [List.nil_append, List.cons_append, List.set_cons_succ, List.set_cons_zero] at HL1
  have hwd := HLW.out.size
  have o1 : w1.cell? ⟨g1, q, none⟩ = some (.int .u64 (was : Int)) := by
    rw [own_cell hown q (by rw [words_length]; exact hq)]
    simp [words, HWAS.out]
  have o2 := own_frozen hown q
  obtain ⟨b0, _, _, _, _, _, hl5⟩ := HL1.out.c3 0 rfl
  clear hown hgrow hat hcur1 e2 HLW HE HTE cW HTW HRW
  refine Lib.hid ?_
  go_upto_region 17 with fail
  obtain ⟨V, hV⟩ : ∃ V, (w1.setCell ⟨g1, q, none⟩ (.int .u64 (now : Int))).alloc (.cells #[.int .i64 4, .int .i64 (q : Int), .int .u64 (was : Int), .int .u64 (now : Int), .bool true] 157) = V := ⟨_, rfl⟩
  have HLV := Lib.hid ((HL1.out.rowset 3 rfl q (.int .u64 (now : Int))).alloc 157 #[.int .i64 4, .int .i64 (q : Int), .int .u64 (was : Int), .int .u64 (now : Int), .bool true])
  rw [hV, ← words_set] at HLV
  simp only [List.nil_append, List.cons_append, List.set_cons_succ, List.set_cons_zero, World.size_setCell] at HLV
  obtain ⟨b17, hb17⟩ : ∃ b17, w1.heap.size = b17 := ⟨_, rfl⟩
  rw [hV, hb17]
  rw [hb17] at HLV
  clear hV hb17 o1 o2 HL1 b0 hl5
  obtain ⟨v0, v1, v2, _, _, _, hl5⟩ := HLV.out.c3 0 rfl
  obtain ⟨x0, x1, x2, x3, x4, _, _, _, _, _, hl17⟩ := HLV.out.c5 4 rfl
  obtain ⟨_, _, _, _, _, _, hl10⟩ := HLV.out.c3 1 rfl
  obtain ⟨_, _, _, _, _, _, _, _, _, _, hl11⟩ := HLV.out.c5 2 rfl
  have n1 := HLV.out.ne 4 1 rfl rfl (by decide)
  have n2 := HLV.out.ne 4 2 rfl rfl (by decide)
  have n3 := Ne.symm n1
  have n4 := Ne.symm n2
  have n5 : w.heap.size ≠ w.heap.size + 1 + 1 := by omega
  have n6 : w.heap.size + 1 + 1 ≠ w.heap.size := by omega
  have HRV : Hid (V.ownsRow 0 157 5 (.slice la s.L.length lp) s.L.length (accCells s.L)) := own_keep HA.out.log (fun k hk => HLV.out.below.block k (own_lt HA.out.log k hk))
  -- the three orders in which the makers of memory come up
  have HLa := Lib.hid ((HLV.out.emptyR 157 5).drew)
  have HLb := Lib.hid (((HLV.out.emptyR 157 5).alloc 157 #[.int .i64 4, .int .i64 (q : Int), .int .u64 (was : Int), .int .u64 (now : Int), .bool true]).drew)
  have HLc := Lib.hid ((((HLV.out.alloc 157 #[.int .i64 4, .int .i64 (q : Int), .int .u64 (was : Int), .int .u64 (now : Int), .bool true]).emptyR 157 5).drew).pick [0, 1, 2, 3, 4, 6, 5] (by decide) (by simp))
  simp only [List.nil_append, List.cons_append, World.size_alloc, List.filterMap_cons, List.filterMap_nil, List.getElem?_cons_zero, List.getElem?_cons_succ] at HLa HLb HLc
  have HRa := Lib.hid (own_drew (HRV.out.alloc (.cells #[] 157)))
  have HRb := Lib.hid (own_drew ((HRV.out.alloc (.cells #[] 157)).alloc (.cells #[.int .i64 4, .int .i64 (q : Int), .int .u64 (was : Int), .int .u64 (now : Int), .bool true] 157)))
  have HRc := Lib.hid (own_drew ((HRV.out.alloc (.cells #[.int .i64 4, .int .i64 (q : Int), .int .u64 (was : Int), .int .u64 (now : Int), .bool true] 157)).alloc (.cells #[] 157)))
  go_region_held3 (fun w' => w'.cell? ⟨w.heap.size, 1, none⟩ = some (.int .i64 (s.most : Int)) ∧ w'.cell? ⟨w.heap.size, 2, none⟩ = some (.slice la s.L.length lp) ∧ w'.cell? ⟨b17, 0, none⟩ = some (.int .i64 4) ∧ w'.cell? ⟨b17, 1, none⟩ = some (.int .i64 (q : Int)) ∧ w'.cell? ⟨b17, 2, none⟩ = some (.int .u64 (was : Int)) ∧ w'.cell? ⟨b17, 3, none⟩ = some (.int .u64 (now : Int)) ∧ w'.cell? ⟨b17, 4, none⟩ = some (.bool true)) (go_keep) (first
    | (refine step_append_src _ (by rfl) (.tmp 68) (.tmp 70) 53 (by rfl) 157 j0 _ 5 40 Tryd.underlying53 hj jz0 jz1 jz2 rfl (by decide) (.slice (some ⟨V.heap.size, 0, none⟩) 0 0) 0 [] (by rfl) (HLa.out.row 5 rfl) (.slice la s.L.length lp) s.L.length (accCells s.L) (by rfl) HRa.out (accs_one _) (by simp only [maxLen]; omega) (by omega) ?_; intro a2 c2 w2 hown hgrow hat; simp only [Nat.zero_add, List.nil_append] at hown hat ⊢; have HL2 := Lib.hid (HLa.out.grown 5 rfl hgrow hown hat); simp only [List.set_cons_succ, List.set_cons_zero] at HL2; obtain ⟨v0, v1, v2, _, _, _, hl5⟩ := HL2.out.c3 0 rfl; obtain ⟨x0, x1, x2, x3, x4, _, _, _, _, _, hl17⟩ := HL2.out.c5 4 rfl; obtain ⟨p10, _, _, q10, _, _, hl10⟩ := HL2.out.c3 1 rfl; obtain ⟨p11, _, _, _, _, q11, _, _, _, _, hl11⟩ := HL2.out.c5 2 rfl; clear hown hgrow hat)
    | (refine step_append_src _ (by rfl) (.tmp 68) (.tmp 70) 53 (by rfl) 157 j0 _ 5 40 Tryd.underlying53 hj jz0 jz1 jz2 rfl (by decide) (.slice (some ⟨V.heap.size, 0, none⟩) 0 0) 0 [] (by rfl) (HLb.out.row 5 rfl) (.slice la s.L.length lp) s.L.length (accCells s.L) (by rfl) HRb.out (accs_one _) (by simp only [maxLen]; omega) (by omega) ?_; intro a2 c2 w2 hown hgrow hat; simp only [Nat.zero_add, List.nil_append] at hown hat ⊢; have HL2 := Lib.hid (HLb.out.grown 5 rfl hgrow hown hat); simp only [List.set_cons_succ, List.set_cons_zero] at HL2; obtain ⟨v0, v1, v2, _, _, _, hl5⟩ := HL2.out.c3 0 rfl; obtain ⟨x0, x1, x2, x3, x4, _, _, _, _, _, hl17⟩ := HL2.out.c5 4 rfl; obtain ⟨p10, _, _, q10, _, _, hl10⟩ := HL2.out.c3 1 rfl; obtain ⟨p11, _, _, _, _, q11, _, _, _, _, hl11⟩ := HL2.out.c5 2 rfl; clear hown hgrow hat)
    | (refine step_append_src _ (by rfl) (.tmp 68) (.tmp 70) 53 (by rfl) 157 j0 _ 5 40 Tryd.underlying53 hj jz0 jz1 jz2 rfl (by decide) (.slice (some ⟨V.heap.size + 1, 0, none⟩) 0 0) 0 [] (by rfl) (HLc.out.row 5 rfl) (.slice la s.L.length lp) s.L.length (accCells s.L) (by rfl) HRc.out (accs_one _) (by simp only [maxLen]; omega) (by omega) ?_; intro a2 c2 w2 hown hgrow hat; simp only [Nat.zero_add, List.nil_append] at hown hat ⊢; have HL2 := Lib.hid (HLc.out.grown 5 rfl hgrow hown hat); simp only [List.set_cons_succ, List.set_cons_zero] at HL2; obtain ⟨v0, v1, v2, _, _, _, hl5⟩ := HL2.out.c3 0 rfl; obtain ⟨x0, x1, x2, x3, x4, _, _, _, _, _, hl17⟩ := HL2.out.c5 4 rfl; obtain ⟨p10, _, _, q10, _, _, hl10⟩ := HL2.out.c3 1 rfl; obtain ⟨p11, _, _, _, _, q11, _, _, _, _, hl11⟩ := HL2.out.c5 2 rfl; clear hown hgrow hat)
    | (refine step_append_src _ (by rfl) (.tmp 71) (.tmp 73) 53 (by rfl) 157 j0 _ 5 40 Tryd.underlying53 hj jz0 jz1 jz2 rfl (by decide) (.slice a2 s.L.length c2) s.L.length (accCells s.L) (by rfl) ((HL2.out.alloc _ _).row 5 rfl) (.slice (some ⟨w2.heap.size, 0, none⟩) 1 1) 1 (Acc.cells ⟨4, q, was, now, true⟩) (by rfl) (own_box1 ((HL2.out.alloc _ _).box 6 rfl)) (acc_one _) (by simp only [maxLen]; omega) (by omega) ?_; intro a3 c3 w3 hown hgrow hat; have HL3 := Lib.hid ((HL2.out.alloc _ _).grown 5 rfl hgrow hown hat); simp only [List.set_cons_succ, List.set_cons_zero, List.cons_append, List.nil_append] at HL3; obtain ⟨v0, v1, v2, _, _, _, hl5⟩ := HL3.out.c3 0 rfl; obtain ⟨x0, x1, x2, x3, x4, _, _, _, _, _, hl17⟩ := HL3.out.c5 4 rfl; obtain ⟨p10, p101, p102, q10, q101, q102, hl10⟩ := HL3.out.c3 1 rfl; obtain ⟨p11, p111, p112, p113, p114, q11, q111, q112, q113, q114, hl11⟩ := HL3.out.c5 2 rfl; clear hown hgrow hat)
    | (refine step_append_src _ (by rfl) (.tmp 71) (.tmp 73) 53 (by rfl) 157 j0 _ 5 40 Tryd.underlying53 hj jz0 jz1 jz2 rfl (by decide) (.slice a2 s.L.length c2) s.L.length (accCells s.L) (by rfl) (HL2.out.row 5 rfl) (.slice (some ⟨_, 0, none⟩) 1 1) 1 (Acc.cells ⟨4, q, was, now, true⟩) (by rfl) (own_box1 (HL2.out.box 6 rfl)) (acc_one _) (by simp only [maxLen]; omega) (by omega) ?_; intro a3 c3 w3 hown hgrow hat; have HL3 := Lib.hid (HL2.out.grown 5 rfl hgrow hown hat); simp only [List.set_cons_succ, List.set_cons_zero, List.cons_append, List.nil_append] at HL3; obtain ⟨v0, v1, v2, _, _, _, hl5⟩ := HL3.out.c3 0 rfl; obtain ⟨x0, x1, x2, x3, x4, _, _, _, _, _, hl17⟩ := HL3.out.c5 4 rfl; obtain ⟨p10, p101, p102, q10, q101, q102, hl10⟩ := HL3.out.c3 1 rfl; obtain ⟨p11, p111, p112, p113, p114, q11, q111, q112, q113, q114, hl11⟩ := HL3.out.c5 2 rfl; clear hown hgrow hat))
  all_goals go_wp2
  all_goals have HLF := Lib.hid ((((((((HL3.out.set 1 rfl 0 (.slice (some ⟨g1, 0, none⟩) s.C.length c1)).set 1 rfl 1 (.int .i64 (s.most : Int))).set 1 rfl 2 (.slice a3 (s.L.length + 1) c3)).set 2 rfl 0 (.int .i64 4)).set 2 rfl 1 (.int .i64 (q : Int))).set 2 rfl 2 (.int .u64 (was : Int))).set 2 rfl 3 (.int .u64 (now : Int))).set 2 rfl 4 (.bool true))
  all_goals simp only [List.set_cons_succ, List.set_cons_zero, List.setIfInBounds_toArray] at HLF
  all_goals obtain ⟨y0, y1, y2, _, _, _, _⟩ := HLF.out.c3 1 rfl
  all_goals obtain ⟨z0, z1, z2, z3, z4, _, _, _, _, _, _⟩ := HLF.out.c5 2 rfl
  all_goals refine bodyPost_ret (v := .tuple #[.agg #[.slice (some ⟨g1, 0, none⟩) s.C.length c1, .int .i64 (s.most : Int), .slice a3 (s.L.length + 1) c3], .agg #[.int .i64 4, .int .i64 (q : Int), .int .u64 (was : Int), .int .u64 (now : Int), .bool true], .int .i64 0]) (by simp [results, Tryd.results86, go_sem, y0, y1, y2, z0, z1, z2, z3, z4]) rfl ?_
  all_goals exact refDo_close (x := ⟨4, q, was, now, true⟩) HA.out HLF.out rfl rfl HWAS.out hq

theorem doBy_in (s : Ar) (op q : Nat) (chg : Nat → Nat × Bool) (hq : q < s.C.length) (now : Nat) (did : Bool) (h1 : (if (chg s.C[q]).2 then (chg s.C[q]).1 else s.C[q]) = now) (h2 : (chg s.C[q]).2 = did) :
    s.doBy op (q : Int) chg = (s.acc op q now did, ⟨op, q, s.C[q], now, did⟩, 0) := by
  have hg : s.C.getD q 0 = s.C[q] := by simp [List.getD, hq]
  simp only [Ar.doBy]
  rw [if_pos ⟨by omega, by omega⟩]
  simp only [Int.toNat_natCast, hg, h1]
  rw [h2]
section
variable (w : World) (vc vl : Value) (s : Ar) (at_ : Int) (h : RefAt w vc vl s) (hL : s.L.length ≤ 1048576)
include h hL
theorem refLoad (x y : Int) : Calls Tryd.prog 86 #[refV vc s.most vl, .int .i64 1, .int .i64 at_, .int .u64 x, .int .u64 y] w (RefDid w vc vl s (s.load at_)) := by
  by_cases hin : 0 ≤ at_ ∧ at_ < (s.C.length : Int)
  · obtain ⟨q, rfl⟩ := Int.eq_ofNat_of_zero_le hin.1
    have hq : q < s.C.length := by omega
    rw [Ar.load, doBy_in s 1 q chgLoad hq s.C[q] true (by simp [chgLoad]) rfl]
    exact refDo_load w vc vl s q s.C[q] x y h hq rfl hL
  · exact refDo_out w vc vl s 1 at_ x y h hin _
theorem refStore (v : Nat) (y : Int) : Calls Tryd.prog 86 #[refV vc s.most vl, .int .i64 2, .int .i64 at_, .int .u64 (v : Int), .int .u64 y] w (RefDid w vc vl s (s.store at_ v)) := by
  by_cases hin : 0 ≤ at_ ∧ at_ < (s.C.length : Int)
  · obtain ⟨q, rfl⟩ := Int.eq_ofNat_of_zero_le hin.1
    have hq : q < s.C.length := by omega
    rw [Ar.store, doBy_in s 2 q (chgStore v) hq v true (by simp [chgStore]) rfl]
    exact refDo_store w vc vl s q s.C[q] v y h hq rfl hL
  · exact refDo_out w vc vl s 2 at_ v y h hin _
theorem refSwap (x y : Nat) : Calls Tryd.prog 86 #[refV vc s.most vl, .int .i64 3, .int .i64 at_, .int .u64 (x : Int), .int .u64 (y : Int)] w (RefDid w vc vl s (s.swap at_ x y)) := by
  by_cases hin : 0 ≤ at_ ∧ at_ < (s.C.length : Int)
  · obtain ⟨q, rfl⟩ := Int.eq_ofNat_of_zero_le hin.1
    have hq : q < s.C.length := by omega
    by_cases hx : s.C[q] = x
    · rw [Ar.swap, doBy_in s 3 q (chgSwap x y) hq y true (by simp [chgSwap, hx]) (by simp [chgSwap, hx])]
      have := refDo_swapY w vc vl s q s.C[q] y h hq rfl hL
      rwa [hx] at this ⊢
    · rw [Ar.swap, doBy_in s 3 q (chgSwap x y) hq s.C[q] false (by simp [chgSwap, hx]) (by simp [chgSwap, hx])]
      exact refDo_swapN w vc vl s q s.C[q] x y (by simp; omega) h hq rfl hL
  · exact refDo_out w vc vl s 3 at_ x y h hin _
theorem refAdd (n : Nat) (y : Int) : Calls Tryd.prog 86 #[refV vc s.most vl, .int .i64 4, .int .i64 at_, .int .u64 (n : Int), .int .u64 y] w (RefDid w vc vl s (s.add at_ n)) := by
  by_cases hin : 0 ≤ at_ ∧ at_ < (s.C.length : Int)
  · obtain ⟨q, rfl⟩ := Int.eq_ofNat_of_zero_le hin.1
    have hq : q < s.C.length := by omega
    rw [Ar.add, doBy_in s 4 q (chgAdd n) hq ((s.C[q] + n) % 18446744073709551616) true (by simp [chgAdd]) rfl]
    exact refDo_add w vc vl s q s.C[q] n ((s.C[q] + n) % 18446744073709551616) y (by rw [IntKind.wrap_u64]; omega) h hq rfl hL
  · exact refDo_out w vc vl s 4 at_ n y h hin _
end
end Go.Proofs.YtihmbgdkllmkaaaDoor

/-
  The reference's arena of layer 1 as a thing of the ledger; its calls.
-/
namespace Go.Proofs.YtihmbgdkllmkaaaDoor
open Go.RowKit Go.Shelf
set_option maxRecDepth 100000
set_option linter.unusedVariables false

/-- The reference's arena of which the two slices are vc, vl is s. -/
def refT (vc vl : Value) (s : Ar) : Thing where
  holds w fp := RefAt w vc vl s ∧ (∀ k ∈ sb vc ++ sb vl, k ∈ fp) ∧ ∀ k ∈ fp, k < w.heap.size
  keep := fun {w w' fp} ⟨h1, h2, h3⟩ he => ⟨h1.keep (fun b hb => he b (h2 b hb)), h2, fun k hk => by
    have := he k hk
    rw [Array.getElem?_eq_getElem (h3 k hk)] at this
    exact (Array.getElem?_eq_some_iff.1 this).1⟩
  lt := fun ⟨_, _, h⟩ => h
section
variable {T : List Nat} {w0 w w' : World} {l : List Thing} {vc vl : Value} {s s' : Ar}
theorem Led.refAt (h : Led T w0 w l) (i : Nat) (hi : l[i]? = some (refT vc vl s)) : RefAt w vc vl s := let ⟨_, h, _⟩ := h.get i hi; h.1
theorem Led.refStep (h : Led T w0 w l) (i : Nat) (hi : l[i]? = some (refT vc vl s)) {vc' vl' : Value} (hr : RefAt w' vc' vl' s') (ht : Touch [] w w') (hn : ∀ b ∈ sb vc' ++ sb vl', b ∈ sb vc ++ sb vl ∨ w.heap.size ≤ b) : Led T w0 w' (l.set i (refT vc' vl' s')) := by
  obtain ⟨f, ⟨h1, h2, h3⟩, _, hs⟩ := h.step i hi
  refine hs w' (refT vc' vl' s') (f ++ (sb vc' ++ sb vl')) ⟨hr, fun k hk => List.mem_append_right _ hk, fun k hk => ?_⟩ ⟨ht.mono (by simp), fun k hk => ?_⟩
  · rcases List.mem_append.1 hk with h | h
    · exact Nat.lt_of_lt_of_le (h3 k h) ht.size
    · rcases List.mem_append.1 h with h | h
      · exact own_lt hr.cel k h
      · exact own_lt hr.log k h
  · rcases List.mem_append.1 hk with h | h
    · exact .inl h
    · exact (hn k h).imp (h2 k) id
theorem Led.refDid (h : Led T w0 w l) (i : Nat) (hi : l[i]? = some (refT vc vl s)) {f : Nat} {args : Array Value} {r : Ar × Acc × Nat} (hc : RefAt w vc vl s → Calls Tryd.prog f args w (RefDid w vc vl s r)) :
    Calls Tryd.prog f args w fun e w' => ∃ vc' vl', e = .returned (.tuple #[refV vc' s.most vl', r.2.1.val, .int .i64 (r.2.2 : Int)]) ∧ Led T w0 w' (l.set i (refT vc' vl' r.1)) := by
  refine (hc (h.refAt i hi)).mono ?_
  rintro e w' ⟨vc', vl', rfl, hr, ht, hn⟩
  exact ⟨vc', vl', rfl, h.refStep i hi hr ht hn⟩
theorem Led.refAlloc (h : Led T w0 w l) (i : Nat) (hi : l[i]? = some (refT vc vl s)) (n : Int) :
    Calls Tryd.prog 48 #[refV vc s.most vl, .int .i64 n] w fun e w' => ∃ vc', e = .returned (.tuple #[refV vc' s.most vl, .int .i64 ((s.allocA n).2.1 : Int), .int .i64 ((s.allocA n).2.2 : Int)]) ∧ Led T w0 w' (l.set i (refT vc' vl (s.allocA n).1)) := by
  refine (Proofs.YtihmbgdkllmkaaaDoor.refAlloc w vc vl s n (h.refAt i hi)).mono ?_
  rintro e w' ⟨vc', rfl, hr, ht, hn⟩
  refine ⟨vc', rfl, h.refStep i hi hr ht (fun b hb => ?_)⟩
  rcases List.mem_append.1 hb with hb | hb
  · exact (hn b hb).imp (fun h => List.mem_append_left _ h) id
  · exact .inl (List.mem_append_right _ hb)
end
/-- A reference's arena without cells and accesses. -/
theorem refT_nil {T : List Nat} {w0 w : World} {l : List Thing} (h : Led T w0 w l) (most : Nat) (hm : most ≤ 65536) : Led T w0 w (l ++ [refT (.slice none 0 0) (.slice none 0 0) ⟨[], most, []⟩]) :=
  h.new (t' := refT (.slice none 0 0) (.slice none 0 0) ⟨[], most, []⟩) (f' := []) ⟨⟨World.ownsRow_nil _ _ _ _, World.ownsRow_nil _ _ _ _, by simp, hm⟩, by simp [sb, Value.ownBlock], by simp⟩ ⟨Touch.refl _ _, by simp⟩

/-- A call of law 01: what, where, two numbers. -/
structure Call01 where
  what : Int
  at_ : Int
  x : Nat
  y : Nat
def Call01.cells (a : Call01) : List Value := [.int .i64 a.what, .int .i64 a.at_, .int .u64 (a.x : Int), .int .u64 (a.y : Int)]
def Call01.Ok (a : Call01) : Prop := (-9223372036854775808 ≤ a.what ∧ a.what ≤ 9223372036854775807) ∧ (-9223372036854775808 ≤ a.at_ ∧ a.at_ ≤ 9223372036854775807) ∧ Wd a.x ∧ Wd a.y
/-- The arena behind a call. -/
def actS (s : Ar) (c : Call01) : Ar :=
  if c.what = 0 then (s.allocA c.at_).1 else if c.what = 1 then (s.load c.at_).1 else if c.what = 2 then (s.store c.at_ c.x).1 else if c.what = 3 ∨ c.what = 4 then (s.swap c.at_ c.x c.y).1 else if c.what = 5 then (s.add c.at_ c.x).1 else s
/-- What act tells, and what it leaves. -/
def Acted (T : List Nat) (w : World) (s : Ar) (c : Call01) (e : Ending) (w' : World) : Prop :=
  ∃ g' vc' vl' rest, e = .returned (.tuple #[.pointer (some ⟨g', 0, none⟩), refV vc' s.most vl', .bool true]) ∧ Led T w w' (arena g' (actS s c) :: refT vc' vl' (actS s c) :: rest)
end Go.Proofs.YtihmbgdkllmkaaaDoor

/-
  The reference's Load, Store, Swap (betrothalref01), and those of layer 12 (betrothalref12), in the ledger.
-/
namespace Go.Proofs.YtihmbgdkllmkaaaDoor
open Go.RowKit Go.Shelf
set_option maxRecDepth 100000
set_option linter.unusedVariables false
set_option linter.unusedSimpArgs false

/-- A call of the reference's: it tells E, and the reference's arena is s' then. -/
def RefGo (T : List Nat) (w : World) (s' : Ar) (E : Value → Value → Value) (e : Ending) (w' : World) : Prop := ∃ vc' vl' rest, e = .returned (E vc' vl') ∧ Led T w w' (refT vc' vl' s' :: rest)
theorem Led.refGo {T0 : List Nat} {w0 w : World} {l : List Thing} {vc vl : Value} {s s' : Ar} {E : Value → Value → Value} {f : Nat} {args : Array Value} (h : Led T0 w0 w l) (i : Nat) (hi : l[i]? = some (refT vc vl s))
    (hc : ∀ T, Led T w w [refT vc vl s] → Calls Tryd.prog f args w (RefGo T w s' E)) : Calls Tryd.prog f args w fun e w' => ∃ vc' vl', e = .returned (E vc' vl') ∧ Led T0 w0 w' (l.set i (refT vc' vl' s')) := by
  obtain ⟨T', h1, h2⟩ := h.frame1 i hi
  refine (hc T' h1).mono ?_
  rintro e w' ⟨vc', vl', rest, rfl, h3⟩
  exact ⟨vc', vl', rfl, h2 _ _ _ h3⟩

theorem post_name {P : Program} {fn : Func} {R : Ending → World → Prop} {ex : Exit} {a : Act} {W : World} (h : ∀ w2, W = w2 → bodyPost P fn R ex a w2) : bodyPost P fn R ex a W := h W rfl
set_option maxHeartbeats 4000000 in
theorem rSwap (T : List Nat) (w : World) (vc vl : Value) (s : Ar) (at_ : Int) (x y : Nat) (hL : s.L.length ≤ 1048576) (h : Led T w w [refT vc vl s]) :
    Calls Tryd.prog 75 #[refV vc s.most vl, .int .i64 at_, .int .u64 (x : Int), .int .u64 (y : Int)] w (RefGo T w (s.swap at_ x y).1 (fun vc' vl' => .tuple #[refV vc' s.most vl', .int .u64 ((s.swap at_ x y).2.1.old : Int), .bool (s.swap at_ x y).2.1.did, .int .i64 ((s.swap at_ x y).2.2 : Int)])) := by
  obtain ⟨ca, cp, rfl, _, _⟩ := own_val (h.refAt 0 rfl).cel
  obtain ⟨la, lp, rfl, _, _⟩ := own_val (h.refAt 0 rfl).log
  have HL0 := Lib.hid h
  clear h
  unfold refV
  go_enter Tryd.func75, Tryd.ntmps75
  go_wp2_with fail
  refine (((HL0.out.alloc _ _).alloc _ _).refDid 0 rfl (fun hr => refSwap _ _ _ s at_ hr hL x y)).mono ?_
  rintro e w1 ⟨vc', vl', rfl, hL⟩
  simp only [List.nil_append, List.cons_append, List.set_cons_succ, List.set_cons_zero, World.size_alloc] at hL
  obtain ⟨ca1, cp1, rfl, _, _⟩ := own_val (hL.refAt 0 rfl).cel
  obtain ⟨la1, lp1, rfl, _, _⟩ := own_val (hL.refAt 0 rfl).log
  have HL1 := Lib.hid hL
  clear hL
  unfold refV
  obtain ⟨b4, hb4⟩ : ∃ b, w.heap.size + 1 = b := ⟨_, rfl⟩
  rw [hb4] at HL1 ⊢
  obtain ⟨b2, hb2⟩ : ∃ b, w.heap.size = b := ⟨_, rfl⟩
  rw [hb2] at HL1 ⊢
  clear hb4 hb2
  obtain ⟨p0, p1, p2, f0, f1, f2, z4, _, _⟩ := HL1.out.c3 2 rfl
  go_wp2_with fail
  refine wp_name ?_
  intro w2 hw2
  have HL2 := Lib.hid (HL1.out.al2 hw2)
  simp only [List.nil_append, List.cons_append] at HL2
  clear hw2
  obtain ⟨b8, hb8⟩ : ∃ b, w1.heap.size + 1 = b := ⟨_, rfl⟩
  rw [hb8] at HL2 ⊢
  obtain ⟨b7, hb7⟩ : ∃ b, w1.heap.size = b := ⟨_, rfl⟩
  rw [hb7] at HL2 ⊢
  clear hb8 hb7 HL1 p0 p1 p2 f0 f1 f2 z4
  obtain ⟨p0, p1, p2, f0, f1, f2, z4, _, _⟩ := HL2.out.c3 2 rfl
  obtain ⟨r0, r1, r2, _, _, _, zr, _, _⟩ := HL2.out.c3 3 rfl
  obtain ⟨_, _, q2, _, q4, _, _, _, _, _, zq, _, _⟩ := HL2.out.c5 4 rfl
  have n1 := HL2.out.ne 2 3 rfl rfl (by decide)
  have n2 := HL2.out.ne 2 4 rfl rfl (by decide)
  have n3 := Ne.symm n1
  have n4 := Ne.symm n2
  go_region_held3 (fun w' => w'.cell? ⟨b7, 0, none⟩ = some (.slice ca1 (s.swap at_ x y).1.C.length cp1) ∧ w'.cell? ⟨b7, 1, none⟩ = some (.int .i64 (s.most : Int)) ∧ w'.cell? ⟨b7, 2, none⟩ = some (.slice la1 (s.swap at_ x y).1.L.length lp1) ∧ w'.cell? ⟨b8, 2, none⟩ = some (.int .u64 ((s.swap at_ x y).2.1.old : Int)) ∧ w'.cell? ⟨b8, 4, none⟩ = some (.bool (s.swap at_ x y).2.1.did)) (go_keep) (first | fail)
  go_wp2
  have HL3 := Lib.hid ((((HL2.out.set 2 rfl 0 (.slice ca1 (s.swap at_ x y).1.C.length cp1)).set 2 rfl 1 (.int .i64 (s.most : Int))).set 2 rfl 2 (.slice la1 (s.swap at_ x y).1.L.length lp1)).drew)
  simp only [List.set_cons_succ, List.set_cons_zero, List.setIfInBounds_toArray] at HL3
  obtain ⟨y0, y1, y2, _, _, _, _, _, _⟩ := HL3.out.c3 2 rfl
  refine bodyPost_ret (v := .tuple #[.agg #[.slice ca1 (s.swap at_ x y).1.C.length cp1, .int .i64 (s.most : Int), .slice la1 (s.swap at_ x y).1.L.length lp1], .int .u64 ((s.swap at_ x y).2.1.old : Int), .bool (s.swap at_ x y).2.1.did, .int .i64 ((s.swap at_ x y).2.2 : Int)]) (by simp [results, Tryd.results75, go_sem, y0, y1, y2]) rfl ?_
  exact ⟨_, _, _, rfl, HL3.out⟩
theorem doBy_old0 (s : Ar) (op : Nat) (at_ : Int) (chg : Nat → Nat × Bool) (h : (s.doBy op at_ chg).2.2 ≠ 0) : (s.doBy op at_ chg).2.1.old = 0 := by
  rcases doBy_err s op at_ chg with h1 | ⟨_, h1⟩
  · exact absurd h1 h
  · rw [h1]; rfl
theorem doBy_wd' (s : Ar) (op : Nat) (at_ : Int) (chg : Nat → Nat × Bool) (h : ∀ n ∈ s.C, Wd n) : Wd (s.doBy op at_ chg).2.1.old := by
  have h0 : Wd 0 := by unfold Wd; omega
  simp only [Ar.doBy]
  split
  · simp only [List.getD]
    cases hc : s.C[at_.toNat]? with
    | none => exact h0
    | some x => exact h x (List.mem_of_getElem? hc)
  · exact h0

end Go.Proofs.YtihmbgdkllmkaaaDoor

/-
  The reference of layer 3 (betrothalref03/ref.go), in the ledger: New, Try, Free, Held.
-/
namespace Go.Proofs.YtihmbgdkllmkaaaDoor
open Go.RowKit Go.Shelf
set_option maxRecDepth 100000
set_option linter.unusedVariables false
set_option linter.unusedSimpArgs false

set_option maxHeartbeats 4000000 in
theorem rTry (T : List Nat) (w : World) (vc vl : Value) (s : Ar) (at_ : Int) (hL : s.L.length ≤ 1048576) (h : Led T w w [refT vc vl s]) :
    Calls Tryd.prog 54 #[refV vc s.most vl, .int .i64 at_] w (RefGo T w (s.swap at_ 0 1).1 (fun vc' vl' => .tuple #[refV vc' s.most vl', .bool (s.swap at_ 0 1).2.1.did, .int .i64 ((s.swap at_ 0 1).2.2 : Int)])) := by
  obtain ⟨ca, cp, rfl, _, _⟩ := own_val (h.refAt 0 rfl).cel
  obtain ⟨la, lp, rfl, _, _⟩ := own_val (h.refAt 0 rfl).log
  have HL0 := Lib.hid h
  clear h
  unfold refV
  go_enter Tryd.func54, Tryd.ntmps54
  go_wp2_with fail
  refine (((HL0.out.alloc _ _).alloc _ _).refGo 0 rfl (fun T h => rSwap T _ _ _ s at_ 0 1 hL h)).mono ?_
  rintro e w1 ⟨vc', vl', rfl, hL⟩
  simp only [List.nil_append, List.cons_append, List.set_cons_succ, List.set_cons_zero, World.size_alloc] at hL
  obtain ⟨ca1, cp1, rfl, _, _⟩ := own_val (hL.refAt 0 rfl).cel
  obtain ⟨la1, lp1, rfl, _, _⟩ := own_val (hL.refAt 0 rfl).log
  have HL1 := Lib.hid hL
  clear hL
  unfold refV
  obtain ⟨b4, hb4⟩ : ∃ b, w.heap.size + 1 = b := ⟨_, rfl⟩
  rw [hb4] at HL1 ⊢
  obtain ⟨b2, hb2⟩ : ∃ b, w.heap.size = b := ⟨_, rfl⟩
  rw [hb2] at HL1 ⊢
  clear hb4 hb2
  obtain ⟨p0, p1, p2, f0, f1, f2, z4, z41, z42⟩ := HL1.out.c3 2 rfl
  go_wp2
  refine post_name ?_
  intro w2 hw2
  have HL3 := Lib.hid ((((HL1.out.set 2 rfl 0 (.slice ca1 (s.swap at_ 0 1).1.C.length cp1)).set 2 rfl 1 (.int .i64 (s.most : Int))).set 2 rfl 2 (.slice la1 (s.swap at_ 0 1).1.L.length lp1)).al1 hw2)
  simp only [List.set_cons_succ, List.set_cons_zero, List.setIfInBounds_toArray, List.cons_append, List.nil_append] at HL3
  clear hw2
  obtain ⟨y0, y1, y2, _, _, _, _, _, _⟩ := HL3.out.c3 2 rfl
  refine bodyPost_ret (v := .tuple #[.agg #[.slice ca1 (s.swap at_ 0 1).1.C.length cp1, .int .i64 (s.most : Int), .slice la1 (s.swap at_ 0 1).1.L.length lp1], .bool (s.swap at_ 0 1).2.1.did, .int .i64 ((s.swap at_ 0 1).2.2 : Int)]) (by simp [results, Tryd.results54, go_sem, y0, y1, y2, Ar.swap, Ar.load]) rfl ?_
  exact ⟨_, _, _, rfl, HL3.out⟩
set_option maxHeartbeats 4000000 in
theorem rFree (T : List Nat) (w : World) (vc vl : Value) (s : Ar) (at_ : Int) (hL : s.L.length ≤ 1048576) (h : Led T w w [refT vc vl s]) :
    Calls Tryd.prog 55 #[refV vc s.most vl, .int .i64 at_] w (RefGo T w (s.swap at_ 1 0).1 (fun vc' vl' => .tuple #[refV vc' s.most vl', .int .i64 (s.freeE at_ : Int)])) := by
  have HE : Hid ((s.freeE at_ : Int) = (if (s.swap at_ 1 0).2.2 = 0 then (if (s.swap at_ 1 0).2.1.did then 0 else 30) else (s.swap at_ 1 0).2.2 : Nat)) := rfl
  rcases doBy_err s 3 at_ (chgSwap 1 0) with he | ⟨he, hz⟩
  · change (s.swap at_ 1 0).2.2 = 0 at he
    rw [he, if_pos rfl] at HE
    cases hd : (s.swap at_ 1 0).2.1.did with
    | true =>
      rw [hd, if_pos rfl] at HE
      have HSW := Lib.hid (rSwap (x := 1) (y := 0) (s := s) (at_ := at_) (hL := hL))
      rw [hd, he] at HSW
      obtain ⟨ca, cp, rfl, _, _⟩ := own_val (h.refAt 0 rfl).cel
      obtain ⟨la, lp, rfl, _, _⟩ := own_val (h.refAt 0 rfl).log
      have HL0 := Lib.hid h
      clear h
      unfold refV
      go_enter Tryd.func55, Tryd.ntmps55
      go_wp2_with fail
      refine (((HL0.out.alloc _ _).alloc _ _).refGo 0 rfl (fun T h => HSW.out T _ _ _ h)).mono ?_
      rintro e w1 ⟨vc', vl', rfl, hL⟩
      simp only [List.nil_append, List.cons_append, List.set_cons_succ, List.set_cons_zero, World.size_alloc] at hL
      obtain ⟨ca1, cp1, rfl, _, _⟩ := own_val (hL.refAt 0 rfl).cel
      obtain ⟨la1, lp1, rfl, _, _⟩ := own_val (hL.refAt 0 rfl).log
      have HL1 := Lib.hid hL
      clear hL
      unfold refV
      obtain ⟨b4, hb4⟩ : ∃ b, w.heap.size + 1 = b := ⟨_, rfl⟩
      rw [hb4] at HL1 ⊢
      obtain ⟨b2, hb2⟩ : ∃ b, w.heap.size = b := ⟨_, rfl⟩
      rw [hb2] at HL1 ⊢
      clear hb4 hb2
      obtain ⟨p0, p1, p2, f0, f1, f2, z4, z41, z42⟩ := HL1.out.c3 2 rfl
      go_wp2
      refine post_name ?_
      intro w2 hw2
      have HL3 := Lib.hid ((((HL1.out.set 2 rfl 0 (.slice ca1 (s.swap at_ 1 0).1.C.length cp1)).set 2 rfl 1 (.int .i64 (s.most : Int))).set 2 rfl 2 (.slice la1 (s.swap at_ 1 0).1.L.length lp1)).al1 hw2)
      simp only [List.set_cons_succ, List.set_cons_zero, List.setIfInBounds_toArray, List.cons_append, List.nil_append] at HL3
      clear hw2
      obtain ⟨y0, y1, y2, _, _, _, _, _, _⟩ := HL3.out.c3 2 rfl
      refine bodyPost_ret (v := .tuple #[.agg #[.slice ca1 (s.swap at_ 1 0).1.C.length cp1, .int .i64 (s.most : Int), .slice la1 (s.swap at_ 1 0).1.L.length lp1], .int .i64 0]) (by simp [results, Tryd.results55, go_sem, y0, y1, y2, Ar.swap, Ar.load]) rfl ?_
      exact ⟨_, _, _, by rw [HE.out]; rfl, HL3.out⟩
    | false =>
      rw [hd, if_neg (by simp)] at HE
      have HSW := Lib.hid (rSwap (x := 1) (y := 0) (s := s) (at_ := at_) (hL := hL))
      rw [hd, he] at HSW
      obtain ⟨ca, cp, rfl, _, _⟩ := own_val (h.refAt 0 rfl).cel
      obtain ⟨la, lp, rfl, _, _⟩ := own_val (h.refAt 0 rfl).log
      have HL0 := Lib.hid h
      clear h
      unfold refV
      go_enter Tryd.func55, Tryd.ntmps55
      go_wp2_with fail
      refine (((HL0.out.alloc _ _).alloc _ _).refGo 0 rfl (fun T h => HSW.out T _ _ _ h)).mono ?_
      rintro e w1 ⟨vc', vl', rfl, hL⟩
      simp only [List.nil_append, List.cons_append, List.set_cons_succ, List.set_cons_zero, World.size_alloc] at hL
      obtain ⟨ca1, cp1, rfl, _, _⟩ := own_val (hL.refAt 0 rfl).cel
      obtain ⟨la1, lp1, rfl, _, _⟩ := own_val (hL.refAt 0 rfl).log
      have HL1 := Lib.hid hL
      clear hL
      unfold refV
      obtain ⟨b4, hb4⟩ : ∃ b, w.heap.size + 1 = b := ⟨_, rfl⟩
      rw [hb4] at HL1 ⊢
      obtain ⟨b2, hb2⟩ : ∃ b, w.heap.size = b := ⟨_, rfl⟩
      rw [hb2] at HL1 ⊢
      clear hb4 hb2
      obtain ⟨p0, p1, p2, f0, f1, f2, z4, z41, z42⟩ := HL1.out.c3 2 rfl
      go_wp2
      refine post_name ?_
      intro w2 hw2
      have HL3 := Lib.hid ((((HL1.out.set 2 rfl 0 (.slice ca1 (s.swap at_ 1 0).1.C.length cp1)).set 2 rfl 1 (.int .i64 (s.most : Int))).set 2 rfl 2 (.slice la1 (s.swap at_ 1 0).1.L.length lp1)).al1 hw2)
      simp only [List.set_cons_succ, List.set_cons_zero, List.setIfInBounds_toArray, List.cons_append, List.nil_append] at HL3
      clear hw2
      obtain ⟨y0, y1, y2, _, _, _, _, _, _⟩ := HL3.out.c3 2 rfl
      refine bodyPost_ret (v := .tuple #[.agg #[.slice ca1 (s.swap at_ 1 0).1.C.length cp1, .int .i64 (s.most : Int), .slice la1 (s.swap at_ 1 0).1.L.length lp1], .int .i64 30]) (by simp [results, Tryd.results55, go_sem, y0, y1, y2, Ar.swap, Ar.load]) rfl ?_
      exact ⟨_, _, _, by rw [HE.out]; rfl, HL3.out⟩
  · change (s.swap at_ 1 0).2.2 = 4 at he
    rw [he, if_neg (by simp)] at HE
    have HSW := Lib.hid (rSwap (x := 1) (y := 0) (s := s) (at_ := at_) (hL := hL))
    rw [he] at HSW
    obtain ⟨ca, cp, rfl, _, _⟩ := own_val (h.refAt 0 rfl).cel
    obtain ⟨la, lp, rfl, _, _⟩ := own_val (h.refAt 0 rfl).log
    have HL0 := Lib.hid h
    clear h
    unfold refV
    go_enter Tryd.func55, Tryd.ntmps55
    go_wp2_with fail
    refine (((HL0.out.alloc _ _).alloc _ _).refGo 0 rfl (fun T h => HSW.out T _ _ _ h)).mono ?_
    rintro e w1 ⟨vc', vl', rfl, hL⟩
    simp only [List.nil_append, List.cons_append, List.set_cons_succ, List.set_cons_zero, World.size_alloc] at hL
    obtain ⟨ca1, cp1, rfl, _, _⟩ := own_val (hL.refAt 0 rfl).cel
    obtain ⟨la1, lp1, rfl, _, _⟩ := own_val (hL.refAt 0 rfl).log
    have HL1 := Lib.hid hL
    clear hL
    unfold refV
    obtain ⟨b4, hb4⟩ : ∃ b, w.heap.size + 1 = b := ⟨_, rfl⟩
    rw [hb4] at HL1 ⊢
    obtain ⟨b2, hb2⟩ : ∃ b, w.heap.size = b := ⟨_, rfl⟩
    rw [hb2] at HL1 ⊢
    clear hb4 hb2
    obtain ⟨p0, p1, p2, f0, f1, f2, z4, z41, z42⟩ := HL1.out.c3 2 rfl
    go_wp2
    refine post_name ?_
    intro w2 hw2
    have HL3 := Lib.hid ((((HL1.out.set 2 rfl 0 (.slice ca1 (s.swap at_ 1 0).1.C.length cp1)).set 2 rfl 1 (.int .i64 (s.most : Int))).set 2 rfl 2 (.slice la1 (s.swap at_ 1 0).1.L.length lp1)).al1 hw2)
    simp only [List.set_cons_succ, List.set_cons_zero, List.setIfInBounds_toArray, List.cons_append, List.nil_append] at HL3
    clear hw2
    obtain ⟨y0, y1, y2, _, _, _, _, _, _⟩ := HL3.out.c3 2 rfl
    refine bodyPost_ret (v := .tuple #[.agg #[.slice ca1 (s.swap at_ 1 0).1.C.length cp1, .int .i64 (s.most : Int), .slice la1 (s.swap at_ 1 0).1.L.length lp1], .int .i64 4]) (by simp [results, Tryd.results55, go_sem, y0, y1, y2, Ar.swap, Ar.load]) rfl ?_
    exact ⟨_, _, _, by rw [HE.out]; rfl, HL3.out⟩
set_option maxHeartbeats 4000000 in
theorem rNew3 (T : List Nat) (w : World) (vc vl : Value) (s : Ar) (h : Led T w w [refT vc vl s]) :
    Calls Tryd.prog 70 #[refV vc s.most vl] w (RefGo T w (s.allocA 1).1 (fun vc' vl' => .tuple #[refV vc' s.most vl', .int .i64 ((s.allocA 1).2.1 : Int), .int .i64 ((s.allocA 1).2.2 : Int)])) := by
  obtain ⟨ca, cp, rfl, _, _⟩ := own_val (h.refAt 0 rfl).cel
  obtain ⟨la, lp, rfl, _, _⟩ := own_val (h.refAt 0 rfl).log
  have HL0 := Lib.hid h
  clear h
  unfold refV
  go_enter Tryd.func70, Tryd.ntmps70
  go_wp2_with fail
  refine (((HL0.out.alloc _ _).alloc _ _).refAlloc 0 rfl 1).mono ?_
  rintro e w1 ⟨vc', rfl, hL⟩
  simp only [List.nil_append, List.cons_append, List.set_cons_succ, List.set_cons_zero, World.size_alloc] at hL
  obtain ⟨ca1, cp1, rfl, _, _⟩ := own_val (hL.refAt 0 rfl).cel
  have HL1 := Lib.hid hL
  clear hL
  unfold refV
  obtain ⟨b4, hb4⟩ : ∃ b, w.heap.size + 1 = b := ⟨_, rfl⟩
  rw [hb4] at HL1 ⊢
  obtain ⟨b2, hb2⟩ : ∃ b, w.heap.size = b := ⟨_, rfl⟩
  rw [hb2] at HL1 ⊢
  clear hb4 hb2
  obtain ⟨p0, p1, p2, f0, f1, f2, z4, z41, z42⟩ := HL1.out.c3 2 rfl
  go_wp2
  refine post_name ?_
  intro w2 hw2
  have HL3 := Lib.hid (((HL1.out.set 2 rfl 0 (.slice ca1 (s.allocA 1).1.C.length cp1)).set 2 rfl 1 (.int .i64 (s.most : Int))).set 2 rfl 2 (.slice la s.L.length lp))
  simp only [List.set_cons_succ, List.set_cons_zero, List.setIfInBounds_toArray] at HL3
  rw [hw2] at HL3
  clear hw2
  obtain ⟨y0, y1, y2, _, _, _, _, _, _⟩ := HL3.out.c3 2 rfl
  refine bodyPost_ret (v := .tuple #[.agg #[.slice ca1 (s.allocA 1).1.C.length cp1, .int .i64 (s.most : Int), .slice la s.L.length lp], .int .i64 ((s.allocA 1).2.1 : Int), .int .i64 ((s.allocA 1).2.2 : Int)]) (by simp [results, Tryd.results70, go_sem, y0, y1, y2]) rfl ?_
  exact ⟨_, _, _, rfl, HL3.out⟩
end Go.Proofs.YtihmbgdkllmkaaaDoor
