/-
  QueueHolds (betrothallaw13/law.go): its walk: for every slice of bytes it returns true, and nothing that was there has turned.
-/
import Derived.Test.YtihmbgdkllmkaaaMarks
import Derived.Test.YtihmbgdkllmkaaaQueueFullW
import Derived.Test.YtihmbgdkllmkaaaW15
import Derived.Test.YtihmbgdkllmkaaaOver
import Derived.Test.YtihmbgdkllmkaaaBytes
import Derived.Test.YtihmbgdkllmkaaaQuietRound
import Derived.Deep.Cut
import Derived.Deep.CutRange
namespace Go.Proofs.Ytihmbgdkllmkaaa
open Go.RowKit Go.Shelf
set_option maxRecDepth 100000
set_option linter.unusedVariables false
set_option linter.unusedSimpArgs false
attribute [local go_sem] Oper.semAt_some

/-- The queue and who stands: the entries' branches, their synchronizations. -/
def Stand (es : List ME) (zs : List Nat) : Prop := es.map (fun e => (e.branch, e.sync)) = zs.map (fun (z : Nat) => ((z : Int), ((z : Int) % 5)))
theorem Stand.len {es : List ME} {zs : List Nat} (h : Stand es zs) : es.length = zs.length := by have := congrArg List.length h; simpa using this
theorem build_ent3 (s t b : Int) (w : World) : (Instr.build 27 #[(0, .int .i64 s), (1, .int .i64 t), (2, .int .i64 b)]).run Try.prog w = .ok (.agg #[.int .i64 s, .int .i64 t, .int .i64 b, .int .i64 0, .int .i64 0, .int .i64 0, .slice none 0 0]) w := run_build w 27 _ _ (by kernel_rfl)
/-- The frame at the head of the loop. -/
def qhFrame (a1 : Option Addr) (n1 c1 bq g bs k : Nat) (u : Nat → Value) : Array Value := #[.slice a1 n1 c1, undef, .pointer (some ⟨bq, 0, none⟩), .pointer (some ⟨g, 0, none⟩), .pointer (some ⟨bs, 0, none⟩), .int .i64 (k : Int), u 6, u 7, u 8, u 9, u 10, u 11, u 12, u 13, u 14, u 15, u 16, u 17, .slice a1 n1 c1, .int .i64 (n1 : Int), .bool false, undef, .pointer (some ⟨g, 0, none⟩), u 23, u 24, u 25, u 26, u 27, u 28, u 29, u 30, u 31, u 32, u 33, u 34, u 35, u 36, u 37, u 38, u 39, u 40, u 41, u 42, u 43, u 44, u 45, u 46, u 47, u 48, u 49, u 50, u 51, u 52, u 53, u 54, u 55, u 56, u 57, u 58, u 59, u 60, u 61, u 62, u 63, u 64, u 65, u 66, u 67, u 68, u 69, u 70, u 71, u 72, u 73, u 74, u 75, u 76, u 77, u 78, u 79, u 80, u 81, u 82, u 83, u 84, u 85, u 86, u 87, u 88, u 89, u 90, u 91, u 92, u 93, u 94, u 95, u 96, u 97, u 98, u 99, u 100, u 101, u 102, u 103, u 104, u 105, u 106, u 107, u 108, u 109, u 110, u 111, u 112, u 113, u 114, u 115, u 116, u 117, u 118, u 119, u 120, u 121, u 122, u 123, u 124, u 125, u 126, u 127, u 128, u 129, u 130, u 131, u 132, u 133, u 134, u 135, u 136, u 137, u 138, u 139, u 140, u 141, u 142, u 143, u 144, u 145, u 146, u 147, u 148, u 149, u 150, u 151, u 152, u 153, u 154, u 155, u 156, u 157, u 158, u 159, u 160, u 161, u 162, u 163, u 164, u 165, u 166, u 167, u 168, u 169, u 170, u 171, u 172, u 173, u 174, u 175, u 176, u 177, u 178, u 179, u 180, undef]
/-- The calls that are owed to loops that are over. -/
def owed (Ds : List Nat) : List Deferred := Ds.map fun k => { target := .collected k, args := #[] }
/-- Between two rounds. -/
def QHInv (w : World) (a1 : Option Addr) (n1 c1 bq g bs : Nat) (a : Act) (W : World) : Prop :=
  ∃ (k : Nat) (u : Nat → Value) (Ds : List Nat) (es : List ME) (vs : List MT) (zs : List Nat) (sa : Option Addr) (cap : Nat), a = { tmps := qhFrame a1 n1 c1 bq g bs k u, defers := owed Ds } ∧ k ≤ n1 ∧ zs.length ≤ k ∧ Hid (Stand es zs) ∧ Hid (∀ e ∈ es, e.v ∈ vs ∧ e.v.nodes ≤ 256) ∧
    Hid (Led [] w W [box bq 4 #[.bool false], queueT g es, valsT vs, box bs 45 #[.slice sa zs.length cap], rowT 3 1 (.slice sa zs.length cap) zs.length (natCells zs), marksT Ds])
def qhMu (n1 : Nat) (a : Act) (_ : World) : Nat := n1 - (intOf (a.tmps.getD 5 undef)).toNat
/-- Only so it ends. -/
def OnlyNormal (R : Act → World → Prop) : Exit → Act → World → Prop
  | .normal, a, w => R a w
  | _, _, _ => False
/-- Ahead of the loop within. -/
def QHMid (w : World) (a1 : Option Addr) (n1 c1 bq g bs k : Nat) (Ds : List Nat) (es : List ME) (vs : List MT) (zs : List Nat) (a : Act) (W : World) : Prop :=
  ∃ (u : Nat → Value) (sa : Option Addr) (cap : Nat), a = { tmps := qhFrame a1 n1 c1 bq g bs k u, defers := owed Ds } ∧ Hid (Led [] w W [box bq 4 #[.bool false], queueT g es, valsT vs, box bs 45 #[.slice sa zs.length cap], rowT 3 1 (.slice sa zs.length cap) zs.length (natCells zs), marksT Ds])
theorem take_src {w : World} {e g n cap k : Nat} {xs : List Value} (h : rowS w e 1 (.slice (some ⟨g, 0, none⟩) n cap) n xs) : ∀ j u, (xs.take k)[j]? = some u → w.cell? ((⟨g, 0, none⟩ : Addr).add j) = some u := by
  intro j u hu
  rw [Addr.add_lit, Nat.zero_add]
  have hj : j < xs.length := by
    have := (List.getElem?_eq_some_iff.1 hu).1
    simp at this; omega
  rw [rowS_cell h j hj]
  have h2 := (List.getElem?_eq_some_iff.1 hu).2
  rw [← h2, List.getElem_take]
theorem qh_mid {w : World} {a1 : Option Addr} {n1 c1 bq g bs k : Nat} {T : Array Value} {W : World} {Ds : List Nat} {es : List ME} {vs : List MT} {zs : List Nat} {sa : Option Addr} {cap : Nat} (hT : T = qhFrame a1 n1 c1 bq g bs k (fun n => T.getD n undef))
    (hL : Hid (Led [] w W [box bq 4 #[.bool false], queueT g es, valsT vs, box bs 45 #[.slice sa zs.length cap], rowT 3 1 (.slice sa zs.length cap) zs.length (natCells zs), marksT Ds])) : QHMid w a1 n1 c1 bq g bs k Ds es vs zs { tmps := T, defers := owed Ds } W :=
  ⟨fun n => T.getD n undef, sa, cap, by rw [← hT], hL⟩
theorem erase_cells (zs : List Nat) (m : Nat) (hm : m < zs.length) : m + (zs.length - (m + 1)) = (zs.eraseIdx m).length ∧ (natCells zs).take m ++ (natCells zs).drop ((m + 1) * 1) = natCells (zs.eraseIdx m) := by
  refine ⟨by rw [List.length_eraseIdx_of_lt hm]; omega, ?_⟩
  rw [Nat.mul_one, List.eraseIdx_eq_take_drop_succ]
  simp [natCells]
theorem qh_close {w : World} {a1 : Option Addr} {n1 c1 bq g bs k : Nat} {u : Nat → Value} {ds0 : List Deferred} {W0 : World} {T : Array Value} {W : World} {Ds : List Nat} {es : List ME} {vs : List MT} {zs : List Nat} {sa : Option Addr} {cap : Nat} (hT : T = qhFrame a1 n1 c1 bq g bs (k + 1) (fun n => T.getD n undef)) (hk : k < n1) (hz : zs.length ≤ k + 1) (hS : Hid (Stand es zs)) (hv : Hid (∀ e ∈ es, e.v ∈ vs ∧ e.v.nodes ≤ 256))
    (hL : Hid (Led [] w W [box bq 4 #[.bool false], queueT g es, valsT vs, box bs 45 #[.slice sa zs.length cap], rowT 3 1 (.slice sa zs.length cap) zs.length (natCells zs), marksT Ds])) :
    QHInv w a1 n1 c1 bq g bs { tmps := T, defers := owed Ds } W ∧ qhMu n1 { tmps := T, defers := owed Ds } W < qhMu n1 { tmps := qhFrame a1 n1 c1 bq g bs k u, defers := ds0 } W0 := by
  refine ⟨⟨k + 1, fun n => T.getD n undef, Ds, es, vs, zs, sa, cap, by rw [← hT], hk, hz, hS, hv, hL⟩, ?_⟩
  have e1 : T.getD 5 undef = .int .i64 ((k + 1 : Nat) : Int) := by rw [hT]; rfl
  have e2 : (qhFrame a1 n1 c1 bq g bs k u).getD 5 undef = .int .i64 (k : Int) := rfl
  unfold qhMu
  simp only [e1, e2, intOf]
  omega
theorem info_int : (Try.prog.info? 3).map (fun i => (i.zero, i.size, i.bytes)) = some (some (.int .i64 0), 1, 8) := by kernel_rfl
theorem Stand.erase {es : List ME} {zs : List Nat} (h : Stand es zs) (m : Nat) : Stand (es.eraseIdx m) (zs.eraseIdx m) := by
  unfold Stand at *
  simp only [List.eraseIdx_eq_take_drop_succ, List.map_append, List.map_take, List.map_drop, h]
theorem Stand.filter {es : List ME} {zs : List Nat} (h : Stand es zs) (s : Int) : Stand (es.filter fun e => !decide (e.plain.sync ∈ [s])) (zs.filter (fun (z : Nat) => !((z : Int) % 5 == s))) := by
  unfold Stand at *
  induction es generalizing zs with
  | nil =>
    cases zs with
    | nil => rfl
    | cons z zs => simp at h
  | cons e es ih =>
    cases zs with
    | nil => simp at h
    | cons z zs =>
      simp only [List.map_cons, List.cons.injEq, Prod.mk.injEq] at h
      obtain ⟨⟨h1, h2⟩, h3⟩ := h
      have hh := ih h3
      have hs : e.plain.sync = (z : Int) % 5 := h2
      by_cases hq : (z : Int) % 5 = s
      · simp [hs, hq] at hh ⊢
        exact hh
      · simp [hs, hq] at hh ⊢
        exact ⟨⟨h1, h2⟩, hh⟩
theorem Stand.nil : Stand [] [] := rfl
theorem Stand.snoc {es : List ME} {zs : List Nat} {y : ME} {k : Nat} (h : Stand es zs) (hb : y.branch = (k : Int)) (hs : y.sync = (k : Int) % 5) : Stand (es ++ [y]) (zs ++ [k]) := by
  unfold Stand at *
  rw [List.map_append, List.map_append, h]
  simp [hb, hs]
set_option maxHeartbeats 2000000 in
theorem queueHolds_out (a1 : Option Addr) (n1 c1 : Nat) (w : World) (hn1 : n1 ≤ 9223372036854775807) (h : 100 < n1) :
    Calls Try.prog 5 #[.slice a1 n1 c1] w fun e w' => e = .returned (.bool true) ∧ Below w.heap.size w w' := by
  have h' : (100 : Int) < (n1 : Int) := by omega
  refine (callsIn_wide (n := 0)).1 ?_
  refine callsIn_of_wp_marks Try.func5 rfl trivial ?_ rfl
  simp only [Try.ntmps5, List.size_toArray, List.length_cons, List.length_nil, Nat.reduceAdd, Nat.reduceSub, Array.replicate_succ, Array.replicate_zero, List.push_toArray, List.append_toArray, List.nil_append, List.cons_append]
  refine wpIn_wide.2 ?_
  go_wp2_with fail
  refine (works13 _).mono ?_
  rintro e w' ⟨rfl, ht⟩
  have HL := Lib.hid (((Led.nil' w).al1 rfl).touch ht).marks0
  simp only [List.nil_append, List.cons_append] at HL
  obtain ⟨b, hb⟩ : ∃ b, w.heap.size = b := ⟨_, rfl⟩
  rw [hb] at HL ⊢
  have HB := Lib.hid hb
  clear ht hb
  obtain ⟨q0, qf, zq, _, _⟩ := HL.out.c1 0 rfl
  go_wp2
  exact led_retM (Ds := []) Try.results5 rfl HL.out 0 rfl rfl 1 (by decide) rfl (fun W' h => ⟨rfl, h.below⟩)
/-- The wide fence asks nothing. -/
theorem askedIn_wideQ {P : Program} {o : Oper} {a : Act} {C : World → Prop} : o.askedIn Fence.wide P a C := fun _ _ _ _ => trivial
attribute [local go_sem ↓ high] askedIn_wideQ
theorem quiet_leftQ {P : Program} {f : FuncId} {args : Array Value} {w : World} {k : Nat} {v : Value} (h : Calls P f args (w.drewN k) fun e w' => e = .returned v ∧ w.drewN k = w') : Calls P f args (w.drewN k) fun e w'' => e = .returned v ∧ ∃ m, w'' = w.drewN m := h.mono fun _ _ ⟨he, hm⟩ => ⟨he, k, hm.symm⟩
theorem seq_not_nil (fn : Fn) (x y : Array Value) (w : World) : (binOp .eql 48 (.func fn x y) .nilFunc).run Try.prog w = .ok (.bool false) w := by kernel_rfl
/-- Between two rounds of the loop within. -/
def qhR (bq g : Nat) (es : List ME) (vs : List MT) (bs : Nat) (sa : Option Addr) (n cap : Nat) (zs : List Nat) (Ds : List Nat) (bx : Nat) (v : Value) (ys : List ME) (bn j : Nat) : List Thing :=
  [box bq 4 #[.bool false], queueT g es, valsT vs, box bs 45 #[.slice sa n cap], rowT 3 1 (.slice sa n cap) n (natCells zs), marksT Ds, allT bx v ys, box bn 3 #[.int .i64 (j : Int)]]
set_option maxHeartbeats 40000000 in
theorem queueHolds_in (a1 : Option Addr) (n1 c1 : Nat) (z : List Nat) (w : World) (hn1 : n1 ≤ 100) (hll : z.length = n1) (hz : BytesAt w a1 z) :
    Calls Try.prog 5 #[.slice a1 n1 c1] w fun e w' => e = .returned (.bool true) ∧ Below w.heap.size w w' := by
  have h' : ¬ (100 : Int) < (n1 : Int) := by omega
  have HZ := Lib.hid hz
  have HLZ := Lib.hid hll
  obtain ⟨i0, hi0, iz0, iz1, iz2⟩ := info_parts info_int
  clear hz hll
  refine (callsIn_wide (n := 0)).1 ?_
  refine callsIn_of_wp_marks Try.func5 rfl trivial ?_ rfl
  simp only [Try.ntmps5, List.size_toArray, List.length_cons, List.length_nil, Nat.reduceAdd, Nat.reduceSub, Array.replicate_succ, Array.replicate_zero, List.push_toArray, List.append_toArray, List.nil_append, List.cons_append]
  refine wpIn_wide.2 ?_
  go_wp2_with fail
  refine (New_q _ ((Led.nil' w).al1 rfl)).mono ?_
  rintro e w1 ⟨g, rfl, hL⟩
  have HL1 := Lib.hid hL.vals0
  simp only [List.nil_append, List.cons_append] at HL1
  clear hL
  obtain ⟨bq, hbq⟩ : ∃ b, w.heap.size = b := ⟨_, rfl⟩
  rw [hbq] at HL1 ⊢
  clear hbq
  go_wp2_with fail
  refine wp_name ?_
  intro w2 hw2
  have HL2 := Lib.hid (((HL1.out.al1 hw2).rowSnil 3 1).marks0)
  simp only [List.nil_append, List.cons_append] at HL2
  obtain ⟨bs, hbs⟩ : ∃ b, w1.heap.size = b := ⟨_, rfl⟩
  rw [hbs] at HL2 ⊢
  clear hw2 hbs HL1
  refine wp_loop (QHInv w a1 n1 c1 bq g bs) (qhMu n1) ⟨0, fun _ => undef, [], [], [], [], none, 0, by kernel_rfl, Nat.zero_le _, Nat.le_refl _, rfl, by unfold Hid; simp, HL2⟩ ?_
  rintro a W ⟨k, u, Ds, es, vs, zs, sa, cap, rfl, hk, hzk, HS, HV, HL⟩
  simp only [qhFrame]
  by_cases hlt : k < n1
  · have hlt' : (k : Int) < (n1 : Int) := by omega
    obtain ⟨b1, o1, rfl, hb1, hv1⟩ := HZ.out.2 k (by rw [HLZ.out]; exact hlt)
    have hzb := HZ.out.1 _ (List.getElem_mem (show k < z.length by rw [HLZ.out]; exact hlt))
    obtain ⟨x, hx⟩ : ∃ x, z[k]'(by rw [HLZ.out]; exact hlt) = x := ⟨_, rfl⟩
    rw [hx] at hv1 hzb
    have cb : W.cell? ⟨b1, o1 + k, none⟩ = some (.int .u8 (x : Int)) := (HL.out.below.cell (p := ⟨b1, o1 + k, none⟩) hb1).trans hv1
    have hk0 : (0 : Int) ≤ (k : Int) := by omega
    clear hx hv1
    have hwx : IntKind.i64.wrap (x : Int) = (x : Int) := IntWalk.i64_in _ (by omega)
    by_cases h128 : x < 128
    · have hx1 : (x : Int) < 128 := by omega
      have hbe := build_ent3
      go_wp2_with fail
      refine ((HL.out.alloc _ _).qPush (xs := [⟨(k : Int) % 5, (x : Int) % 3, (k : Int), 0, MT.zero⟩]) 1 2 rfl rfl (by decide) (fun V hV => ⟨ents_box rfl (hV 6 _ (by decide) rfl), fun y hy => by simp at hy; subst hy; exact MT.in_zero V⟩) (by simp) (by rw [HS.out.len]; omega)).mono ?_
      rintro e w4 ⟨kk, err, ys, rfl, hR, hp, hL⟩
      obtain ⟨rfl, rfl⟩ := hR.all (fun p hp => by simp at hp; rw [hp]; exact ⟨by show (0 : Int) ≤ (k : Int) % 5; omega, by show (0 : Int) ≤ (x : Int) % 3; omega, hk0, Int.le_refl 0, .inl rfl⟩) (by rw [HS.out.len]; simp; omega)
      obtain ⟨y, rfl, hy⟩ := one_of hp
      have HS4 : Hid (Stand (es ++ [y]) (zs ++ [k])) := HS.out.snoc (congrArg PE.branch hy) (congrArg PE.sync hy)
      have HV4 : Hid (∀ e ∈ es ++ [y], e.v ∈ vs ++ [y.v] ∧ e.v.nodes ≤ 256) := by
        intro e he
        rcases List.mem_append.1 he with he | he
        · exact ⟨List.mem_append_left _ (HV.out e he).1, (HV.out e he).2⟩
        · simp at he; subst he
          refine ⟨by simp, ?_⟩
          rw [← MT.plain_nodes, show e.v.plain = e.plain.v from rfl, hy]
          show (MT.zero.plain).nodes ≤ 256
          decide
      have HL4 : Hid (Led [] w w4 [box bq 4 #[.bool false], queueT g (es ++ [y]), valsT (vs ++ [y.v]), box bs 45 #[.slice sa zs.length cap], rowT 3 1 (.slice sa zs.length cap) zs.length (natCells zs), marksT Ds]) := hL.sel [0, 1, 2, 3, 4, 5] rfl (by decide)
      clear hL hR hp hy HS HV HL
      go_wp2_with fail
      refine (num13 _ _).mono ?_
      rintro e wn ⟨rfl, rfl⟩
      obtain ⟨s0, sf, zs0, _, _⟩ := HL4.out.c1 3 rfl
      go_wp2_with (at_builtin; go_must (refine wpList_append_S _ rfl (.tmp 85) (.tmp 87) 45 rfl 3 i0 _ 1 8 Try.underlying45 hi0 iz0 iz1 iz2 rfl (by decide) (.slice sa zs.length cap) zs.length (natCells zs) rfl ((HL4.out.alloc_ _).rowSAt 4 rfl) (some ⟨w4.heap.size, 0, none⟩) 1 1 (natCells [k]) rfl rfl (.inr ⟨_, rfl, World.news_of_block (heap_alloc_new w4 _)⟩) (natCells_one _) (by simp only [maxLen]; omega) (by omega) ?_); intro a5 c5 w5 hown hgrow hat; refine Hid.out ?_)
      have HL5 := Lib.hid ((HL4.out.alloc_ (.cells #[.int .i64 (k : Int)] 3)).grownS 4 rfl hgrow hown hat)
      simp only [List.set_cons_zero, List.set_cons_succ] at HL5
      rw [show natCells zs ++ natCells [k] = natCells (zs ++ [k]) from by simp [natCells]] at HL5
      clear hown hgrow hat s0 sf zs0 HL4
      obtain ⟨s0, sf, zs0, _, _⟩ := HL5.out.c1 3 rfl
      refine Lib.hid ?_
      go_wp2_with fail
      refine wp_calls_name ?_
      intro wt hwt
      have HLT : Hid (Led [] w wt [box bq 4 #[.bool false], queueT g (es ++ [y]), valsT (vs ++ [y.v]), box bs 45 #[.slice a5 (zs ++ [k]).length c5], rowT 3 1 (.slice a5 (zs ++ [k]).length c5) (zs ++ [k]).length (natCells (zs ++ [k])), marksT Ds]) := by
        have h := HL5.out.set 3 rfl 0 (.slice a5 (zs.length + 1) c5)
        rw [hwt] at h
        rw [List.length_append]
        exact h
      clear hwt HL5 s0 sf zs0
      have hzk2 : (zs ++ [k]).length ≤ k + 1 := by simp; omega
      generalize zs ++ [k] = zs2 at HLT HS4 hzk2
      generalize es ++ [y] = es2 at HLT HS4 HV4
      generalize vs ++ [y.v] = vs2 at HLT HV4
      have HLN : Hid (es2.length = zs2.length) := HS4.out.len
      refine (All_q wt g es2 (HLT.out.qAt 1 rfl) (fun e he => ⟨HLT.out.valsIn 2 rfl _ (HV4.out e he).1, (HV4.out e he).2⟩) (by rw [HLN.out]; omega)).mono ?_
      rintro e w6 ⟨bx, ra, rc, ys, rfl, hp, hL⟩
      have HL6 := Lib.hid (HLT.out.join hL)
      simp only [List.nil_append, List.cons_append] at HL6
      have HP := Lib.hid hp
      have HYL : Hid (ys.length = zs2.length) := by have := congrArg List.length hp; simp at this; unfold Hid; rw [this]; exact HLN.out
      have HYN : Hid (∀ y ∈ ys, y.v.nodes ≤ 256) := fun y hy => by
        have hm : y.plain ∈ es2.map ME.plain := by rw [← hp]; exact List.mem_map_of_mem hy
        obtain ⟨e, he, hpe⟩ := List.mem_map.1 hm
        rw [plain_nodes_eq hpe]; exact (HV4.out e he).2
      clear hL hp
      have hnil := seq_not_nil
      obtain ⟨s0, sf, zs0, _, _⟩ := HL6.out.c1 3 rfl
      have HQL := Lib.hid (fun W (hW : Touch [] w6 W) => Len_q W g es2 ((HL6.out.touch hW).qAt 1 rfl))
      rw [HLN.out] at HQL
      go_wp2_with fail
      go_quiet ((go_at_call 19; exact quiet_leftQ (HQL.out _ ((Touch.refl [] w6).drewN _))))
      have HL7 := Lib.hid (HL6.out.drewN nq)
      obtain ⟨w7, hw7⟩ : ∃ w7, w6.drewN nq = w7 := ⟨_, rfl⟩
      rw [hw7] at HL7 ⊢
      clear hw7 HL6 s0 sf zs0 hnil HQL HLT
      go_wp2_with fail
      refine wp_name ?_
      intro w8 hw8
      have HL8 := Lib.hid (HL7.out.al1 hw8)
      simp only [List.nil_append, List.cons_append] at HL8
      obtain ⟨bn, hbn⟩ : ∃ b, w7.heap.size = b := ⟨_, rfl⟩
      rw [hbn] at HL8 ⊢
      clear hw8 hbn HL7
      refine (wpIn_wide (n := 0)).1 ?_
      refine range_allL (bx := bx) (ra := ra) (rc := rc) (ys := ys) rfl rfl (by rw [HYL.out]; omega) HYN.out (qhR bq g es2 vs2 bs a5 zs2.length c5 zs2 Ds bx (.slice ra ys.length rc) ys bn) (fun c lx => False) 6 (fun _ => rfl) HL8.out ?hround ?hdone (fun c W lx h => h.elim)
      case hround =>
        intro j x W o0 hj hxj h
        have hj' : j < zs2.length := by rw [← HYL.out]; exact hj
        have hje : j < es2.length := by rw [HLN.out]; exact hj'
        rw [HP.out, List.getElem?_map, List.getElem?_eq_getElem hje] at hxj
        have hpx : es2[j].plain = x.plain := by simpa using hxj
        have hst := congrArg (fun l => l[j]?) HS4.out
        simp only [List.getElem?_map, List.getElem?_eq_getElem hje, List.getElem?_eq_getElem hj', Option.map_some, Option.some.injEq, Prod.mk.injEq] at hst
        have hxb : x.branch = (zs2[j] : Int) := (show x.branch = es2[j].branch from (congrArg PE.branch hpx).symm).trans hst.1
        have hxs : x.sync = (zs2[j] : Int) % 5 := (show x.sync = es2[j].sync from (congrArg PE.sync hpx).symm).trans hst.2
        obtain ⟨D, hD⟩ : ∃ D, w8.heap.size = D := ⟨_, rfl⟩
        rw [hD] at h ⊢
        have HK := Lib.hid h
        clear h hxj hD hpx hst
        rw [ent_eq, hxb, hxs]
        gi_wp2
        refine ⟨_, HK.out.alloc _ _, fun W2 o h2 => ?_⟩
        obtain ⟨be, hbe⟩ : ∃ b, W.heap.size = b := ⟨_, rfl⟩
        rw [hbe] at h2 ⊢
        have HK2 := Lib.hid h2
        simp only [qhR, marks, List.nil_append, List.cons_append] at HK2
        clear hbe h2 HK hxb hxs
        obtain ⟨n0, nf, zn, _, _⟩ := HK2.out.c1 7 rfl
        obtain ⟨s0, _, zs0, _, _⟩ := HK2.out.c1 3 rfl
        obtain ⟨x0, x1, x2, _, _, _, _, _, zx, _, _⟩ := HK2.out.c7 11 rfl
        obtain ⟨gs, rfl, zg, y0⟩ := nat_cell (HK2.out.rowSAt 4 rfl) rfl hj'
        generalize zs2[j] = zj at x0 x1 x2 y0 ⊢
        have hg1 : ¬ (zs2.length : Int) ≤ (j : Int) := by omega
        have hg2 : ¬ zs2.length ≤ j := by omega
        have hg3 : (j : Int) < (zs2.length : Int) := by omega
        have hj0 : (0 : Int) ≤ (j : Int) := by omega
        have hzj : (0 : Int) ≤ (zj : Int) := by omega
        gi_wp2_with fail
        refine quiet_round rfl (by kernel_rfl) (by kernel_rfl) (by kernel_rfl) ?_
        repeat (first | gi_big_quiet_skip | (gi_big_quiet_want; gi_big_quiet_op; go_big_quiet_on))
        refine wpQuietIn_nil ?_
        intro _ hw'
        obtain ⟨nq2, hw''⟩ := hw'
        subst hw''
        clear x0 x1 x2 y0 s0 zs0 zx zg
        gi_wp2_with fail
        have hs := ((HK2.out.set 7 rfl 0 (.int .i64 ((j : Int) + 1))).drewN nq2)
        exact ⟨[], hs.sel [0, 1, 2, 3, 4, 5, 6, 7, 9, 10] rfl (by decide)⟩
      case hdone =>
        intro W h
        obtain ⟨D, hD⟩ : ∃ D, w8.heap.size = D := ⟨_, rfl⟩
        rw [hD] at h ⊢
        have HK := Lib.hid h
        simp only [qhR, marks1, List.nil_append, List.cons_append] at HK
        clear h hD HL8
        obtain ⟨n0, nf, zn, _, _⟩ := HK.out.c1 7 rfl
        obtain ⟨s0, _, zs0, _, _⟩ := HK.out.c1 3 rfl
        rw [HYL.out] at n0
        have HM : Hid (Led [] w W [box bq 4 #[.bool false], queueT g es2, valsT vs2, box bs 45 #[.slice a5 zs2.length c5], rowT 3 1 (.slice a5 zs2.length c5) zs2.length (natCells zs2), marksT (D :: Ds)]) :=
          Led.addMark (l := [box bq 4 #[.bool false], queueT g es2, valsT vs2, box bs 45 #[.slice a5 zs2.length c5], rowT 3 1 (.slice a5 zs2.length c5) zs2.length (natCells zs2)]) (HK.out.sel [0, 1, 2, 3, 4, 8, 5] rfl (by decide))
        dsimp only
        go_wp2_with fail
        exact qh_close (Ds := D :: Ds) (by kernel_rfl) hlt hzk2 HS4 HV4 HM
    · have hx1 : ¬ (x : Int) < 128 := by omega
      have hx2 : (0 : Int) ≤ (x : Int) - 128 := by omega
      by_cases hev : x % 2 = 0
      · have he1 : ((x : Int) % 2 == 0) = true := by simp; omega
        obtain ⟨m, hm⟩ : ∃ m : Nat, ((x : Int) - 128) / 2 = (m : Int) := ⟨(x - 128) / 2, by omega⟩
        have hm1 : m ≤ 64 := by omega
        have hm0 : (0 : Int) ≤ (m : Int) := by omega
        clear hev
        go_wp2_with fail
        refine (HL.out.qDrop 1 rfl (m : Int) (by rw [HS.out.len]; omega)).mono ?_
        rintro e w4 (⟨y, _, hy, rfl, hL⟩ | ⟨hn, rfl, hL⟩)
        · have hml : m < es.length := by
            simp at hy
            exact (List.getElem?_eq_some_iff.1 hy).1
          have hmz : m < zs.length := by rw [← HS.out.len]; exact hml
          have hyb : y.branch = (zs[m] : Int) := by
            have hst := congrArg (fun l => l[m]?) HS.out
            simp only [Int.toNat_natCast] at hy
            simp only [List.getElem?_map, hy, List.getElem?_eq_getElem hmz, Option.map_some, Option.some.injEq, Prod.mk.injEq] at hst
            exact hst.1
          have HL4 := Lib.hid (hL.alloc 27 #[.int .i64 y.sync, .int .i64 y.thread, .int .i64 y.branch, .int .i64 y.flag, .int .i64 y.v.kind, .int .i64 y.v.num, .slice y.v.addr y.v.parts.length y.v.cap])
          simp only [List.set_cons_zero, List.set_cons_succ, List.nil_append, List.cons_append, Int.toNat_natCast] at HL4
          rw [hyb] at HL4
          simp only [ent_eq]
          rw [hyb]
          clear hL hy hyb HL
          go_wp2_with fail
          refine wp_name ?_
          intro w5 hw5
          have HL5 : Hid (Led [] w w5 [box bq 4 #[.bool false], queueT g (es.eraseIdx m), valsT vs, box bs 45 #[.slice sa zs.length cap], rowT 3 1 (.slice sa zs.length cap) zs.length (natCells zs), marksT Ds, box w4.heap.size 27 #[.int .i64 y.sync, .int .i64 y.thread, .int .i64 (zs[m] : Int), .int .i64 y.flag, .int .i64 y.v.kind, .int .i64 y.v.num, .slice y.v.addr y.v.parts.length y.v.cap]]) := by rw [← hw5]; exact HL4.out
          obtain ⟨by_, hby⟩ : ∃ b, w4.heap.size = b := ⟨_, rfl⟩
          rw [hby] at HL5 ⊢
          clear hw5 hby HL4
          obtain ⟨s0, sf, zs0, _, _⟩ := HL5.out.c1 3 rfl
          obtain ⟨x0, x1, x2, _, _, _, _, _, zx, _, _⟩ := HL5.out.c7 6 rfl
          obtain ⟨gs, rfl, zg, y0⟩ := nat_cell (HL5.out.rowSAt 4 rfl) rfl hmz
          generalize hzm : zs[m] = zm at x0 x1 x2 y0 ⊢
          have hd1 : decide ((m : Int) < (zs.length : Int)) = true := by simp; omega
          have hd2 : (m : Int) < (zs.length : Int) := by omega
          go_quiet (fail)
          have HL6 := Lib.hid ((HL5.out.drewN nq).sel [0, 1, 2, 3, 4, 5] (l' := [box bq 4 #[.bool false], queueT g (es.eraseIdx m), valsT vs, box bs 45 #[.slice (some ⟨gs, 0, none⟩) zs.length cap], rowT 3 1 (.slice (some ⟨gs, 0, none⟩) zs.length cap) zs.length (natCells zs), marksT Ds]) rfl (by decide))
          obtain ⟨w6, hw6⟩ : ∃ w6, w5.drewN nq = w6 := ⟨_, rfl⟩
          rw [hw6] at HL6 ⊢
          simp only [hm]
          have hcap : zs.length ≤ cap := by
            obtain ⟨_, cp, hv, hc1, _⟩ := rowS_val (HL6.out.rowSAt 4 rfl)
            injection hv with _ _ h3
            omega
          clear hw6 HL5 s0 sf zs0 x0 x1 x2 zx zg y0 hzm
          obtain ⟨sb2, hsb2, hsl2⟩ := run_slice_from Try.underlying45 hi0 (some ⟨gs, 0, none⟩) zs.length cap (m + 1) (by omega) hcap
          have hsl1 := fun W => run_slice_to Try.underlying45 hi0 (some ⟨gs, 0, none⟩) zs.length cap m (by omega) W
          have HSA := Lib.hid hsb2
          clear hsb2
          rw [show (((m + 1 : Nat)) : Int) = (m : Int) + 1 by omega] at hsl2
          have hwk : IntKind.i64.wrap ((m : Int) + 1) = (m : Int) + 1 := IntWalk.i64_in _ (by omega)
          obtain ⟨s0, sf, zs0, _, _⟩ := HL6.out.c1 3 rfl
          go_wp2_with fail
          refine Code.wp_mono (Q := OnlyNormal (QHMid w (some ⟨b1, o1, none⟩) n1 c1 bq g bs k Ds (es.eraseIdx m) vs (zs.eraseIdx m))) ?hrest ?hfirst
          case hfirst =>
            have HLE := Lib.hid (HL6.out.empty 3 1).drew
            simp only [List.nil_append, List.cons_append] at HLE
            go_region_law (first
              | (refine step_append_S _ rfl (.tmp 123) (.tmp 126) 45 rfl 3 i0 _ 1 8 Try.underlying45 hi0 iz0 iz1 iz2 rfl (by decide) (.slice (some ⟨w6.heap.size, 0, none⟩) 0 0) 0 [] (by first | rfl | simp [Act.eval, Act.put]) (HLE.out.rowSAt 6 rfl) (some ⟨gs, 0, none⟩) m cap ((natCells zs).take m) (by first | rfl | simp [Act.eval, Act.put]) (by rw [List.length_take, natCells_length]; omega) (.inr ⟨_, rfl, take_src (HLE.out.rowSAt 4 rfl)⟩) (fun u hu => natCells_one zs u (List.mem_of_mem_take hu)) (by simp only [maxLen]; omega) (by omega) ?_; intro a7 c7 w7 hown hgrow hat; have HL7 := Lib.hid (HLE.out.grownS 6 rfl hgrow hown hat); simp only [List.set_cons_zero, List.set_cons_succ, List.nil_append, Nat.zero_add] at HL7; clear hown hgrow hat; (obtain ⟨s1, sf1, zs1, _, _⟩ := HL7.out.c1 3 rfl); simp only [Nat.zero_add])
              | (refine step_append_S _ rfl (.tmp 127) (.tmp 131) 45 rfl 3 i0 _ 1 8 Try.underlying45 hi0 iz0 iz1 iz2 rfl (by decide) (.slice a7 m c7) m ((natCells zs).take m) (by first | rfl | simp [Act.eval, Act.put]) (HL7.out.rowSAt 6 rfl) sb2 (zs.length - (m + 1)) (cap - (m + 1)) ((natCells zs).drop ((m + 1) * 1)) (by first | rfl | simp [Act.eval, Act.put]) (by rw [List.length_drop, natCells_length]; omega) (rowS_src (lo := m + 1) (HL7.out.rowSAt 4 rfl) (by rw [iz1]) HSA.out) (fun u hu => natCells_one zs u (List.mem_of_mem_drop hu)) (by simp only [maxLen]; omega) (by omega) ?_; intro a8 c8 w8 hown hgrow hat; have HL8 := Lib.hid (HL7.out.grownS 6 rfl hgrow hown hat); simp only [List.set_cons_zero, List.set_cons_succ] at HL8; clear hown hgrow hat; (obtain ⟨s2, sf2, zs2, _, _⟩ := HL8.out.c1 3 rfl)))
            all_goals
              have HEE := Lib.hid (erase_cells zs m hmz)
              have h := HL8.out.set 3 rfl 0 (.slice a8 (m + (zs.length - (m + 1))) c8)
              have h2 := h.sel [0, 1, 2, 3, 6, 5] (l' := [box bq 4 #[.bool false], queueT g (es.eraseIdx m), valsT vs, box bs 45 #[.slice a8 (m + (zs.length - (m + 1))) c8], rowT 3 1 (.slice a8 (m + (zs.length - (m + 1))) c8) (m + (zs.length - (m + 1))) (List.take m (natCells zs) ++ List.drop ((m + 1) * 1) (natCells zs)), marksT Ds]) rfl (by decide)
              refine qh_mid (sa := a8) (cap := c8) (by kernel_rfl) ?_
              unfold Hid
              rw [← HEE.out.1, ← HEE.out.2]
              exact h2
          case hrest =>
            intro ex a' wt hex
            cases ex <;> first | exact hex.elim | skip
            obtain ⟨u', a5, c5, rfl, HLT⟩ := hex
            simp only [qhFrame]
            have HS4 : Hid (Stand (es.eraseIdx m) (zs.eraseIdx m)) := HS.out.erase m
            have HV4 : Hid (∀ e ∈ es.eraseIdx m, e.v ∈ vs ∧ e.v.nodes ≤ 256) := fun e he => HV.out e (List.mem_of_mem_eraseIdx he)
            have hzk2 : (zs.eraseIdx m).length ≤ k + 1 := by have := List.length_eraseIdx_le zs m; omega
            clear HS HV HL6 hsl1 hsl2 HSA hwk s0 sf zs0 hd1 hd2 hmz hml hcap
            generalize zs.eraseIdx m = zs2 at HLT HS4 hzk2
            generalize es.eraseIdx m = es2 at HLT HS4 HV4
            go_wp2_with fail
            have HLN : Hid (es2.length = zs2.length) := HS4.out.len
            refine (All_q wt g es2 (HLT.out.qAt 1 rfl) (fun e he => ⟨HLT.out.valsIn 2 rfl _ (HV4.out e he).1, (HV4.out e he).2⟩) (by rw [HLN.out]; omega)).mono ?_
            rintro e w6 ⟨bx, ra, rc, ys, rfl, hp, hL⟩
            have HL6 := Lib.hid (HLT.out.join hL)
            simp only [List.nil_append, List.cons_append] at HL6
            have HP := Lib.hid hp
            have HYL : Hid (ys.length = zs2.length) := by have := congrArg List.length hp; simp at this; unfold Hid; rw [this]; exact HLN.out
            have HYN : Hid (∀ y ∈ ys, y.v.nodes ≤ 256) := fun y hy => by
              have hm : y.plain ∈ es2.map ME.plain := by rw [← hp]; exact List.mem_map_of_mem hy
              obtain ⟨e, he, hpe⟩ := List.mem_map.1 hm
              rw [plain_nodes_eq hpe]; exact (HV4.out e he).2
            clear hL hp
            have hnil := seq_not_nil
            obtain ⟨s0, sf, zs0, _, _⟩ := HL6.out.c1 3 rfl
            have HQL := Lib.hid (fun W (hW : Touch [] w6 W) => Len_q W g es2 ((HL6.out.touch hW).qAt 1 rfl))
            rw [HLN.out] at HQL
            go_wp2_with fail
            go_quiet ((go_at_call 19; exact quiet_leftQ (HQL.out _ ((Touch.refl [] w6).drewN _))))
            have HL7 := Lib.hid (HL6.out.drewN nq)
            obtain ⟨w7, hw7⟩ : ∃ w7, w6.drewN nq = w7 := ⟨_, rfl⟩
            rw [hw7] at HL7 ⊢
            clear hw7 HL6 s0 sf zs0 hnil HQL HLT
            go_wp2_with fail
            refine wp_name ?_
            intro w8 hw8
            have HL8 := Lib.hid (HL7.out.al1 hw8)
            simp only [List.nil_append, List.cons_append] at HL8
            obtain ⟨bn, hbn⟩ : ∃ b, w7.heap.size = b := ⟨_, rfl⟩
            rw [hbn] at HL8 ⊢
            clear hw8 hbn HL7
            refine (wpIn_wide (n := 0)).1 ?_
            refine range_allL (bx := bx) (ra := ra) (rc := rc) (ys := ys) rfl rfl (by rw [HYL.out]; omega) HYN.out (qhR bq g es2 vs bs a5 zs2.length c5 zs2 Ds bx (.slice ra ys.length rc) ys bn) (fun c lx => False) 6 (fun _ => rfl) HL8.out ?hround ?hdone (fun c W lx h => h.elim)
            case hround =>
              intro j x W o0 hj hxj h
              have hj' : j < zs2.length := by rw [← HYL.out]; exact hj
              have hje : j < es2.length := by rw [HLN.out]; exact hj'
              rw [HP.out, List.getElem?_map, List.getElem?_eq_getElem hje] at hxj
              have hpx : es2[j].plain = x.plain := by simpa using hxj
              have hst := congrArg (fun l => l[j]?) HS4.out
              simp only [List.getElem?_map, List.getElem?_eq_getElem hje, List.getElem?_eq_getElem hj', Option.map_some, Option.some.injEq, Prod.mk.injEq] at hst
              have hxb : x.branch = (zs2[j] : Int) := (show x.branch = es2[j].branch from (congrArg PE.branch hpx).symm).trans hst.1
              have hxs : x.sync = (zs2[j] : Int) % 5 := (show x.sync = es2[j].sync from (congrArg PE.sync hpx).symm).trans hst.2
              obtain ⟨D, hD⟩ : ∃ D, w8.heap.size = D := ⟨_, rfl⟩
              rw [hD] at h ⊢
              have HK := Lib.hid h
              clear h hxj hD hpx hst
              rw [ent_eq, hxb, hxs]
              gi_wp2
              refine ⟨_, HK.out.alloc _ _, fun W2 o h2 => ?_⟩
              obtain ⟨be, hbe⟩ : ∃ b, W.heap.size = b := ⟨_, rfl⟩
              rw [hbe] at h2 ⊢
              have HK2 := Lib.hid h2
              simp only [qhR, marks, List.nil_append, List.cons_append] at HK2
              clear hbe h2 HK hxb hxs
              obtain ⟨n0, nf, zn, _, _⟩ := HK2.out.c1 7 rfl
              obtain ⟨s0, _, zs0, _, _⟩ := HK2.out.c1 3 rfl
              obtain ⟨x0, x1, x2, _, _, _, _, _, zx, _, _⟩ := HK2.out.c7 11 rfl
              obtain ⟨gs, rfl, zg, y0⟩ := nat_cell (HK2.out.rowSAt 4 rfl) rfl hj'
              generalize zs2[j] = zj at x0 x1 x2 y0 ⊢
              have hg1 : ¬ (zs2.length : Int) ≤ (j : Int) := by omega
              have hg2 : ¬ zs2.length ≤ j := by omega
              have hg3 : (j : Int) < (zs2.length : Int) := by omega
              have hj0 : (0 : Int) ≤ (j : Int) := by omega
              have hzj : (0 : Int) ≤ (zj : Int) := by omega
              gi_wp2_with fail
              refine quiet_round rfl (by kernel_rfl) (by kernel_rfl) (by kernel_rfl) ?_
              repeat (first | gi_big_quiet_skip | (gi_big_quiet_want; gi_big_quiet_op; go_big_quiet_on))
              refine wpQuietIn_nil ?_
              intro _ hw'
              obtain ⟨nq2, hw''⟩ := hw'
              subst hw''
              clear x0 x1 x2 y0 s0 zs0 zx zg
              gi_wp2_with fail
              have hs := ((HK2.out.set 7 rfl 0 (.int .i64 ((j : Int) + 1))).drewN nq2)
              exact ⟨[], hs.sel [0, 1, 2, 3, 4, 5, 6, 7, 9, 10] rfl (by decide)⟩
            case hdone =>
              intro W h
              obtain ⟨D, hD⟩ : ∃ D, w8.heap.size = D := ⟨_, rfl⟩
              rw [hD] at h ⊢
              have HK := Lib.hid h
              simp only [qhR, marks1, List.nil_append, List.cons_append] at HK
              clear h hD HL8
              obtain ⟨n0, nf, zn, _, _⟩ := HK.out.c1 7 rfl
              obtain ⟨s0, _, zs0, _, _⟩ := HK.out.c1 3 rfl
              rw [HYL.out] at n0
              have HM : Hid (Led [] w W [box bq 4 #[.bool false], queueT g es2, valsT vs, box bs 45 #[.slice a5 zs2.length c5], rowT 3 1 (.slice a5 zs2.length c5) zs2.length (natCells zs2), marksT (D :: Ds)]) :=
                Led.addMark (l := [box bq 4 #[.bool false], queueT g es2, valsT vs, box bs 45 #[.slice a5 zs2.length c5], rowT 3 1 (.slice a5 zs2.length c5) zs2.length (natCells zs2)]) (HK.out.sel [0, 1, 2, 3, 4, 8, 5] rfl (by decide))
              dsimp only
              go_wp2_with fail
              exact qh_close (Ds := D :: Ds) (by kernel_rfl) hlt hzk2 HS4 HV4 HM
        · have hmz : ¬ m < zs.length := fun h => hn ⟨hm0, by rw [HS.out.len]; omega⟩
          have HL4 := Lib.hid (hL.alloc 27 #[.int .i64 0, .int .i64 0, .int .i64 0, .int .i64 0, .int .i64 0, .int .i64 0, .slice none 0 0])
          simp only [List.set_cons_zero, List.set_cons_succ, List.nil_append, List.cons_append] at HL4
          rw [zero_val]
          clear hL hn HL
          go_wp2_with fail
          refine wp_name ?_
          intro w5 hw5
          have HL5 : Hid (Led [] w w5 [box bq 4 #[.bool false], queueT g es, valsT vs, box bs 45 #[.slice sa zs.length cap], rowT 3 1 (.slice sa zs.length cap) zs.length (natCells zs), marksT Ds, box w4.heap.size 27 #[.int .i64 0, .int .i64 0, .int .i64 0, .int .i64 0, .int .i64 0, .int .i64 0, .slice none 0 0]]) := by rw [← hw5]; exact HL4.out
          clear hw5 HL4
          obtain ⟨s0, sf, zs0, _, _⟩ := HL5.out.c1 3 rfl
          have hd1 : decide ((m : Int) < (zs.length : Int)) = false := by simp; omega
          have hd2 : ¬ (m : Int) < (zs.length : Int) := by omega
          have hd3 : decide (m < zs.length) = false := by simp; omega
          go_quiet (fail)
          have HL6 := Lib.hid ((HL5.out.drewN nq).sel [0, 1, 2, 3, 4, 5] (l' := [box bq 4 #[.bool false], queueT g es, valsT vs, box bs 45 #[.slice sa zs.length cap], rowT 3 1 (.slice sa zs.length cap) zs.length (natCells zs), marksT Ds]) rfl (by decide))
          obtain ⟨wt, hw6⟩ : ∃ w6, w5.drewN nq = w6 := ⟨_, rfl⟩
          rw [hw6] at HL6 ⊢
          have HLT := Lib.hid HL6.out
          have hzk2 : zs.length ≤ k + 1 := by omega
          clear hw6 HL5 s0 sf zs0 HL6 hd1 hd2 hd3
          go_wp2_with fail
          have HLN : Hid (es.length = zs.length) := HS.out.len
          refine (All_q wt g es (HLT.out.qAt 1 rfl) (fun e he => ⟨HLT.out.valsIn 2 rfl _ (HV.out e he).1, (HV.out e he).2⟩) (by rw [HLN.out]; omega)).mono ?_
          rintro e w6 ⟨bx, ra, rc, ys, rfl, hp, hL⟩
          have HL6 := Lib.hid (HLT.out.join hL)
          simp only [List.nil_append, List.cons_append] at HL6
          have HP := Lib.hid hp
          have HYL : Hid (ys.length = zs.length) := by have := congrArg List.length hp; simp at this; unfold Hid; rw [this]; exact HLN.out
          have HYN : Hid (∀ y ∈ ys, y.v.nodes ≤ 256) := fun y hy => by
            have hm : y.plain ∈ es.map ME.plain := by rw [← hp]; exact List.mem_map_of_mem hy
            obtain ⟨e, he, hpe⟩ := List.mem_map.1 hm
            rw [plain_nodes_eq hpe]; exact (HV.out e he).2
          clear hL hp
          have hnil := seq_not_nil
          obtain ⟨s0, sf, zs0, _, _⟩ := HL6.out.c1 3 rfl
          have HQL := Lib.hid (fun W (hW : Touch [] w6 W) => Len_q W g es ((HL6.out.touch hW).qAt 1 rfl))
          rw [HLN.out] at HQL
          go_wp2_with fail
          go_quiet ((go_at_call 19; exact quiet_leftQ (HQL.out _ ((Touch.refl [] w6).drewN _))))
          have HL7 := Lib.hid (HL6.out.drewN nq)
          obtain ⟨w7, hw7⟩ : ∃ w7, w6.drewN nq = w7 := ⟨_, rfl⟩
          rw [hw7] at HL7 ⊢
          clear hw7 HL6 s0 sf zs0 hnil HQL HLT
          go_wp2_with fail
          refine wp_name ?_
          intro w8 hw8
          have HL8 := Lib.hid (HL7.out.al1 hw8)
          simp only [List.nil_append, List.cons_append] at HL8
          obtain ⟨bn, hbn⟩ : ∃ b, w7.heap.size = b := ⟨_, rfl⟩
          rw [hbn] at HL8 ⊢
          clear hw8 hbn HL7
          refine (wpIn_wide (n := 0)).1 ?_
          refine range_allL (bx := bx) (ra := ra) (rc := rc) (ys := ys) rfl rfl (by rw [HYL.out]; omega) HYN.out (qhR bq g es vs bs sa zs.length cap zs Ds bx (.slice ra ys.length rc) ys bn) (fun c lx => False) 6 (fun _ => rfl) HL8.out ?hround ?hdone (fun c W lx h => h.elim)
          case hround =>
            intro j x W o0 hj hxj h
            have hj' : j < zs.length := by rw [← HYL.out]; exact hj
            have hje : j < es.length := by rw [HLN.out]; exact hj'
            rw [HP.out, List.getElem?_map, List.getElem?_eq_getElem hje] at hxj
            have hpx : es[j].plain = x.plain := by simpa using hxj
            have hst := congrArg (fun l => l[j]?) HS.out
            simp only [List.getElem?_map, List.getElem?_eq_getElem hje, List.getElem?_eq_getElem hj', Option.map_some, Option.some.injEq, Prod.mk.injEq] at hst
            have hxb : x.branch = (zs[j] : Int) := (show x.branch = es[j].branch from (congrArg PE.branch hpx).symm).trans hst.1
            have hxs : x.sync = (zs[j] : Int) % 5 := (show x.sync = es[j].sync from (congrArg PE.sync hpx).symm).trans hst.2
            obtain ⟨D, hD⟩ : ∃ D, w8.heap.size = D := ⟨_, rfl⟩
            rw [hD] at h ⊢
            have HK := Lib.hid h
            clear h hxj hD hpx hst
            rw [ent_eq, hxb, hxs]
            gi_wp2
            refine ⟨_, HK.out.alloc _ _, fun W2 o h2 => ?_⟩
            obtain ⟨be, hbe⟩ : ∃ b, W.heap.size = b := ⟨_, rfl⟩
            rw [hbe] at h2 ⊢
            have HK2 := Lib.hid h2
            simp only [qhR, marks, List.nil_append, List.cons_append] at HK2
            clear hbe h2 HK hxb hxs
            obtain ⟨n0, nf, zn, _, _⟩ := HK2.out.c1 7 rfl
            obtain ⟨s0, _, zs0, _, _⟩ := HK2.out.c1 3 rfl
            obtain ⟨x0, x1, x2, _, _, _, _, _, zx, _, _⟩ := HK2.out.c7 11 rfl
            obtain ⟨gs, rfl, zg, y0⟩ := nat_cell (HK2.out.rowSAt 4 rfl) rfl hj'
            generalize zs[j] = zj at x0 x1 x2 y0 ⊢
            have hg1 : ¬ (zs.length : Int) ≤ (j : Int) := by omega
            have hg2 : ¬ zs.length ≤ j := by omega
            have hg3 : (j : Int) < (zs.length : Int) := by omega
            have hj0 : (0 : Int) ≤ (j : Int) := by omega
            have hzj : (0 : Int) ≤ (zj : Int) := by omega
            gi_wp2_with fail
            refine quiet_round rfl (by kernel_rfl) (by kernel_rfl) (by kernel_rfl) ?_
            repeat (first | gi_big_quiet_skip | (gi_big_quiet_want; gi_big_quiet_op; go_big_quiet_on))
            refine wpQuietIn_nil ?_
            intro _ hw'
            obtain ⟨nq2, hw''⟩ := hw'
            subst hw''
            clear x0 x1 x2 y0 s0 zs0 zx zg
            gi_wp2_with fail
            have hs := ((HK2.out.set 7 rfl 0 (.int .i64 ((j : Int) + 1))).drewN nq2)
            exact ⟨[], hs.sel [0, 1, 2, 3, 4, 5, 6, 7, 9, 10] rfl (by decide)⟩
          case hdone =>
            intro W h
            obtain ⟨D, hD⟩ : ∃ D, w8.heap.size = D := ⟨_, rfl⟩
            rw [hD] at h ⊢
            have HK := Lib.hid h
            simp only [qhR, marks1, List.nil_append, List.cons_append] at HK
            clear h hD HL8
            obtain ⟨n0, nf, zn, _, _⟩ := HK.out.c1 7 rfl
            obtain ⟨s0, _, zs0, _, _⟩ := HK.out.c1 3 rfl
            rw [HYL.out] at n0
            have HM : Hid (Led [] w W [box bq 4 #[.bool false], queueT g es, valsT vs, box bs 45 #[.slice sa zs.length cap], rowT 3 1 (.slice sa zs.length cap) zs.length (natCells zs), marksT (D :: Ds)]) :=
              Led.addMark (l := [box bq 4 #[.bool false], queueT g es, valsT vs, box bs 45 #[.slice sa zs.length cap], rowT 3 1 (.slice sa zs.length cap) zs.length (natCells zs)]) (HK.out.sel [0, 1, 2, 3, 4, 8, 5] rfl (by decide))
            dsimp only
            go_wp2_with fail
            exact qh_close (Ds := D :: Ds) (by kernel_rfl) hlt hzk2 HS HV HM
      · have he1 : ((x : Int) % 2 == 0) = false := by simp; omega
        clear hev hx2
        go_wp2_with fail
        have HL0 := Lib.hid (HL.out.rowSnil 3 1)
        simp only [List.nil_append, List.cons_append] at HL0
        clear HL
        go_loopw [11, 12, 13] (fun nn lv mm wr => ∃ (j : Nat) (ls : List Nat) (la : Option Addr) (lc : Nat), j ≤ zs.length ∧ mm = .int .i64 (j : Int) ∧ lv = .slice la ls.length lc ∧ ls.length ≤ j ∧ nn = .int .i64 ((j : Int) - (ls.length : Int)) ∧ Hid (ls = (zs.take j).filter (fun (z : Nat) => !((z : Int) % 5 == (x : Int) % 5))) ∧
          Hid (Led [] w wr [box bq 4 #[.bool false], queueT g es, valsT vs, box bs 45 #[.slice sa zs.length cap], rowT 3 1 (.slice sa zs.length cap) zs.length (natCells zs), marksT Ds, rowT 3 1 (.slice la ls.length lc) ls.length (natCells ls)])) (fun _ _ mm _ => zs.length - (intOf mm).toNat)
        case atStart => exact ⟨0, [], none, 0, Nat.zero_le _, rfl, rfl, Nat.le_refl _, rfl, rfl, HL0⟩
        case round =>
          obtain ⟨j, ls, la, lc, hj, rfl, rfl, hlj, rfl, HF, HLL⟩ := hrel
          obtain ⟨s0, sf, zs0, _, _⟩ := HLL.out.c1 3 rfl
          have hj0 : (0 : Int) ≤ (j : Int) := by omega
          by_cases hjl : j < zs.length
          · have hjl' : (j : Int) < (zs.length : Int) := by omega
            obtain ⟨gs, rfl, zg, y0⟩ := nat_cell (HLL.out.rowSAt 4 rfl) rfl hjl
            have HT : Hid (zs.take (j + 1) = zs.take j ++ [zs[j]]) := by unfold Hid; simp
            generalize hzm : zs[j] = zm at y0 HT
            have hz0 : (0 : Int) ≤ (zm : Int) := by omega
            clear hzm
            cases hq : ((zm : Int) % 5 == (x : Int) % 5) with
            | true =>
              have HF2 : Hid (ls = (zs.take (j + 1)).filter (fun (z : Nat) => !((z : Int) % 5 == (x : Int) % 5))) := by unfold Hid; rw [HT.out, List.filter_append, ← HF.out]; simp [hq]
              go_wp2_with fail
              go_roundw
              case rel => exact ⟨j + 1, ls, la, lc, hjl, by go_num, rfl, by omega, by congr 1; omega, HF2, HLL⟩
              case measure => simp [intOf]; omega
            | false =>
              have HF2 : Hid (ls ++ [zm] = (zs.take (j + 1)).filter (fun (z : Nat) => !((z : Int) % 5 == (x : Int) % 5))) := by unfold Hid; rw [HT.out, List.filter_append, ← HF.out]; simp [hq]
              go_wp2_with (at_builtin; go_must (refine wpList_append_S _ rfl (.tmp 51) (.tmp 56) 45 rfl 3 i0 _ 1 8 Try.underlying45 hi0 iz0 iz1 iz2 rfl (by decide) (.slice la ls.length lc) ls.length (natCells ls) rfl ((HLL.out.alloc_ _).rowSAt 6 rfl) (some ⟨wr.heap.size, 0, none⟩) 1 1 (natCells [zm]) rfl rfl (.inr ⟨_, rfl, World.news_of_block (heap_alloc_new wr _)⟩) (natCells_one _) (by simp only [maxLen]; omega) (by omega) ?_); intro a5 c5 w5 hown hgrow hat; refine Hid.out ?_)
              have HL5 := Lib.hid ((HLL.out.alloc_ (.cells #[.int .i64 (zm : Int)] 3)).grownS 6 rfl hgrow hown hat)
              simp only [List.set_cons_zero, List.set_cons_succ] at HL5
              rw [show natCells ls ++ natCells [zm] = natCells (ls ++ [zm]) from by simp [natCells]] at HL5
              clear hown hgrow hat s0 sf zs0 y0 zg
              refine Lib.hid ?_
              go_wp2_with fail
              go_roundw
              case rel => exact ⟨j + 1, ls ++ [zm], a5, c5, hjl, by go_num, by rw [List.length_append]; rfl, by rw [List.length_append]; simp; omega, by rw [List.length_append]; congr 1; simp; omega, HF2, by rw [List.length_append]; exact HL5⟩
              case measure => simp [intOf]; omega
          · have hjl' : ¬ (j : Int) < (zs.length : Int) := by omega
            obtain rfl : j = zs.length := by omega
            rw [List.take_length] at HF
            have HSF : Hid (Stand (es.filter fun e => !decide (e.plain.sync ∈ [(x : Int) % 5])) ls) := by unfold Hid; rw [HF.out]; exact HS.out.filter _
            have HVF : Hid (∀ e ∈ es.filter fun e => !decide (e.plain.sync ∈ [(x : Int) % 5]), e.v ∈ vs ∧ e.v.nodes ≤ 256) := fun e he => HV.out e (List.mem_filter.1 he).1
            have HNF : Hid (∀ e ∈ (es.filter fun e => !decide (e.plain.sync ∈ [(x : Int) % 5])).map ME.plain, e.sync ≠ (x : Int) % 5) := by
              intro e he
              obtain ⟨y, hy, rfl⟩ := List.mem_map.1 he
              have := (List.mem_filter.1 hy).2
              simpa using this
            have HCN : Hid (((es.length - (es.filter fun e => !decide (e.plain.sync ∈ [(x : Int) % 5])).length : Nat) : Int) = (zs.length : Int) - (ls.length : Int)) := by
              unfold Hid
              rw [HS.out.len, HSF.out.len]
              omega
            clear HF
            go_wp2_with fail
            refine ((HLL.out.alloc _ _).qPurge (zs := [(x : Int) % 5]) 1 rfl (fun V hV => ints_box rfl (hV 7 _ (by decide) rfl)) (by rw [HS.out.len]; omega) (by simp)).mono ?_
            rintro e w4 ⟨rfl, hL⟩
            rw [HCN.out]
            have HL4 := Lib.hid (hL.sel [0, 1, 2, 3, 6, 5] (l' := [box bq 4 #[.bool false], queueT g (es.filter fun e => !decide (e.plain.sync ∈ [(x : Int) % 5])), valsT vs, box bs 45 #[.slice sa zs.length cap], rowT 3 1 (.slice la ls.length lc) ls.length (natCells ls), marksT Ds]) rfl (by decide))
            have hzk2 : ls.length ≤ k + 1 := by omega
            clear hL HLL HS HV HCN s0 sf zs0
            generalize (es.filter fun e => !decide (e.plain.sync ∈ [(x : Int) % 5])) = es2 at HL4 HSF HVF HNF
            go_wp2_with fail
            refine (Find_q w4 g _ _ (HL4.out.qAt 1 rfl)).mono ?_
            rintro e w5 ⟨r, rfl, hr, ht⟩
            obtain rfl := hr.unique (idx_none HNF.out)
            have HL5 := Lib.hid (HL4.out.touch ht)
            clear hr ht HL4
            obtain ⟨s0, sf, zs0, _, _⟩ := HL5.out.c1 3 rfl
            go_wp2_with fail
            refine wp_calls_name ?_
            intro wt hwt
            have HLT : Hid (Led [] w wt [box bq 4 #[.bool false], queueT g es2, valsT vs, box bs 45 #[.slice la ls.length lc], rowT 3 1 (.slice la ls.length lc) ls.length (natCells ls), marksT Ds]) := by
              have h := HL5.out.set 3 rfl 0 (.slice la ls.length lc)
              rw [hwt] at h
              exact h
            clear hwt HL5 s0 sf zs0
            have HLN : Hid (es2.length = ls.length) := HSF.out.len
            refine (All_q wt g es2 (HLT.out.qAt 1 rfl) (fun e he => ⟨HLT.out.valsIn 2 rfl _ (HVF.out e he).1, (HVF.out e he).2⟩) (by rw [HLN.out]; omega)).mono ?_
            rintro e w6 ⟨bx, ra, rc, ys, rfl, hp, hL⟩
            have HL6 := Lib.hid (HLT.out.join hL)
            simp only [List.nil_append, List.cons_append] at HL6
            have HP := Lib.hid hp
            have HYL : Hid (ys.length = ls.length) := by have := congrArg List.length hp; simp at this; unfold Hid; rw [this]; exact HLN.out
            have HYN : Hid (∀ y ∈ ys, y.v.nodes ≤ 256) := fun y hy => by
              have hm : y.plain ∈ es2.map ME.plain := by rw [← hp]; exact List.mem_map_of_mem hy
              obtain ⟨e, he, hpe⟩ := List.mem_map.1 hm
              rw [plain_nodes_eq hpe]; exact (HVF.out e he).2
            clear hL hp
            have hnil := seq_not_nil
            obtain ⟨s0, sf, zs0, _, _⟩ := HL6.out.c1 3 rfl
            have HQL := Lib.hid (fun W (hW : Touch [] w6 W) => Len_q W g es2 ((HL6.out.touch hW).qAt 1 rfl))
            rw [HLN.out] at HQL
            go_wp2_with fail
            go_quiet ((go_at_call 19; exact quiet_leftQ (HQL.out _ ((Touch.refl [] w6).drewN _))))
            have HL7 := Lib.hid (HL6.out.drewN nq)
            obtain ⟨w7, hw7⟩ : ∃ w7, w6.drewN nq = w7 := ⟨_, rfl⟩
            rw [hw7] at HL7 ⊢
            clear hw7 HL6 s0 sf zs0 hnil HQL HLT
            go_wp2_with fail
            refine wp_name ?_
            intro w8 hw8
            have HL8 := Lib.hid (HL7.out.al1 hw8)
            simp only [List.nil_append, List.cons_append] at HL8
            obtain ⟨bn, hbn⟩ : ∃ b, w7.heap.size = b := ⟨_, rfl⟩
            rw [hbn] at HL8 ⊢
            clear hw8 hbn HL7
            refine (wpIn_wide (n := 0)).1 ?_
            refine range_allL (bx := bx) (ra := ra) (rc := rc) (ys := ys) rfl rfl (by rw [HYL.out]; omega) HYN.out (qhR bq g es2 vs bs la ls.length lc ls Ds bx (.slice ra ys.length rc) ys bn) (fun c lx => False) 6 (fun _ => rfl) HL8.out ?hround ?hdone (fun c W lx h => h.elim)
            case hround =>
              intro j x W o0 hj hxj h
              have hj' : j < ls.length := by rw [← HYL.out]; exact hj
              have hje : j < es2.length := by rw [HLN.out]; exact hj'
              rw [HP.out, List.getElem?_map, List.getElem?_eq_getElem hje] at hxj
              have hpx : es2[j].plain = x.plain := by simpa using hxj
              have hst := congrArg (fun l => l[j]?) HSF.out
              simp only [List.getElem?_map, List.getElem?_eq_getElem hje, List.getElem?_eq_getElem hj', Option.map_some, Option.some.injEq, Prod.mk.injEq] at hst
              have hxb : x.branch = (ls[j] : Int) := (show x.branch = es2[j].branch from (congrArg PE.branch hpx).symm).trans hst.1
              have hxs : x.sync = (ls[j] : Int) % 5 := (show x.sync = es2[j].sync from (congrArg PE.sync hpx).symm).trans hst.2
              obtain ⟨D, hD⟩ : ∃ D, w8.heap.size = D := ⟨_, rfl⟩
              rw [hD] at h ⊢
              have HK := Lib.hid h
              clear h hxj hD hpx hst
              rw [ent_eq, hxb, hxs]
              gi_wp2
              refine ⟨_, HK.out.alloc _ _, fun W2 o h2 => ?_⟩
              obtain ⟨be, hbe⟩ : ∃ b, W.heap.size = b := ⟨_, rfl⟩
              rw [hbe] at h2 ⊢
              have HK2 := Lib.hid h2
              simp only [qhR, marks, List.nil_append, List.cons_append] at HK2
              clear hbe h2 HK hxb hxs
              obtain ⟨n0, nf, zn, _, _⟩ := HK2.out.c1 7 rfl
              obtain ⟨s0, _, zs0, _, _⟩ := HK2.out.c1 3 rfl
              obtain ⟨x0, x1, x2, _, _, _, _, _, zx, _, _⟩ := HK2.out.c7 11 rfl
              obtain ⟨gs, rfl, zg, y0⟩ := nat_cell (HK2.out.rowSAt 4 rfl) rfl hj'
              generalize ls[j] = zj at x0 x1 x2 y0 ⊢
              have hg1 : ¬ (ls.length : Int) ≤ (j : Int) := by omega
              have hg2 : ¬ ls.length ≤ j := by omega
              have hg3 : (j : Int) < (ls.length : Int) := by omega
              have hj0 : (0 : Int) ≤ (j : Int) := by omega
              have hzj : (0 : Int) ≤ (zj : Int) := by omega
              gi_wp2_with fail
              refine quiet_round rfl (by kernel_rfl) (by kernel_rfl) (by kernel_rfl) ?_
              repeat (first | gi_big_quiet_skip | (gi_big_quiet_want; gi_big_quiet_op; go_big_quiet_on))
              refine wpQuietIn_nil ?_
              intro _ hw'
              obtain ⟨nq2, hw''⟩ := hw'
              subst hw''
              clear x0 x1 x2 y0 s0 zs0 zx zg
              gi_wp2_with fail
              have hs := ((HK2.out.set 7 rfl 0 (.int .i64 ((j : Int) + 1))).drewN nq2)
              exact ⟨[], hs.sel [0, 1, 2, 3, 4, 5, 6, 7, 9, 10] rfl (by decide)⟩
            case hdone =>
              intro W h
              obtain ⟨D, hD⟩ : ∃ D, w8.heap.size = D := ⟨_, rfl⟩
              rw [hD] at h ⊢
              have HK := Lib.hid h
              simp only [qhR, marks1, List.nil_append, List.cons_append] at HK
              clear h hD HL8
              obtain ⟨n0, nf, zn, _, _⟩ := HK.out.c1 7 rfl
              obtain ⟨s0, _, zs0, _, _⟩ := HK.out.c1 3 rfl
              rw [HYL.out] at n0
              have HM : Hid (Led [] w W [box bq 4 #[.bool false], queueT g es2, valsT vs, box bs 45 #[.slice la ls.length lc], rowT 3 1 (.slice la ls.length lc) ls.length (natCells ls), marksT (D :: Ds)]) :=
                Led.addMark (l := [box bq 4 #[.bool false], queueT g es2, valsT vs, box bs 45 #[.slice la ls.length lc], rowT 3 1 (.slice la ls.length lc) ls.length (natCells ls)]) (HK.out.sel [0, 1, 2, 3, 4, 8, 5] rfl (by decide))
              dsimp only
              go_wp2_with fail
              exact qh_close (Ds := D :: Ds) (by kernel_rfl) hlt hzk2 HSF HVF HM
  · have hlt' : ¬ (k : Int) < (n1 : Int) := by omega
    go_wp2_with fail
    refine (works13 _).mono ?_
    rintro e w9 ⟨rfl, ht⟩
    have HL9 := Lib.hid (HL.out.touch ht)
    clear ht HL
    obtain ⟨q0, qf, zq, _, _⟩ := HL9.out.c1 0 rfl
    go_wp2
    unfold owed
    exact led_retM Try.results5 rfl HL9.out 0 rfl rfl 5 (by decide) rfl (fun W' h => ⟨rfl, h.below⟩)
theorem queueHolds_any (a1 : Option Addr) (n1 c1 : Nat) (z : List Nat) (w : World) (hn1 : n1 ≤ maxLen) (hll : z.length = n1) (hz : BytesAt w a1 z) :
    Calls Try.prog 5 #[.slice a1 n1 c1] w fun e w' => e = .returned (.bool true) ∧ Below w.heap.size w w' := by
  by_cases h : n1 ≤ 100
  · exact queueHolds_in a1 n1 c1 z w h hll hz
  · exact queueHolds_out a1 n1 c1 w (by simp only [maxLen] at hn1; omega) (by omega)
end Go.Proofs.Ytihmbgdkllmkaaa
