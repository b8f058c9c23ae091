/-
  over() of law 15 (betrothallaw15/law.go): a loop over All's iterator against a list of entries.
-/
import Derived.Test.YtihmbgdkllmkaaaQ6
import Derived.Test.YtihmbgdkllmkaaaRetC
import Derived.Test.YtihmbgdkllmkaaaRefE
import Derived.Test.YtihmbgdkllmkaaaHeldRound
namespace Go.Proofs.Ytihmbgdkllmkaaa
open Go.RowKit Go.Shelf
set_option maxRecDepth 100000
set_option linter.unusedVariables false
set_option linter.unusedSimpArgs false
attribute [local go_sem] Oper.semAt_some

theorem AllAt.touch {w w' : World} {bx : Nat} {a : Option Addr} {cap : Nat} {ys : List ME} (h : AllAt w bx a cap ys) (ht : Touch [] w w') : AllAt w' bx a cap ys :=
  ⟨Blk.touch h.1 ht (by simp), h.2.1.touch ht, fun y hy => (h.2.2 y hy).touch0 ht⟩
/-- A loop over what All made, which lies somewhere that nothing turns. -/
theorem range_allQ {n : Nat} {gop : Operand} {ps : Array Tmp} {assign body : Code} {Q : Exit → Act → World → Prop} {a : Act} {w w0 : World} {T : List Nat} {bx : Nat} {ra : Option Addr} {rc : Nat} {ys : List ME}
    (hg : a.eval gop = .func (.func 69) #[] #[.pointer (some ⟨bx, 0, none⟩)])
    (hps : ps.size = 2) (hL : ys.length ≤ 1048576) (hnn : ∀ y ∈ ys, y.v.nodes ≤ 256) (R : Nat → List Thing) (X : Code → List Thing → Prop) (hA : ∀ W, Touch T w0 W → AllAt W bx ra rc ys) (h0 : Led T w0 w (R 0))
    (hround : ∀ (k : Nat) (x : ME) (W : World) (o0 : Obj), k < ys.length → (ys.map ME.plain)[k]? = some x.plain → Led T w0 W (R k ++ [valsT [x.v]] ++ marks w.heap.size o0) →
      assign.wpIn (Fence.wide.inRound (w.heap.size + 1)) (n - 1 - 1) Try.prog (Exit.then (fun a1 W1 => ∃ m, Led T w0 W1 (R k ++ [valsT [x.v]] ++ marks w.heap.size o0 ++ m) ∧
        ∀ W2 o, Led T w0 W2 (R k ++ [valsT [x.v]] ++ marks w.heap.size o ++ m) → body.wpIn (Fence.wide.inRound (w.heap.size + 1)) (n - 1 - 1) Try.prog (bodyL T w0 w.heap.size o (R (k + 1)) X) a1 W2) (fun _ _ _ => False))
        { tmps := (ps.zip #[.int .i64 (k : Int), x.val]).foldl (fun t (p, v) => t.setIfInBounds p v) a.tmps, defers := [] } W)
    (hdone : ∀ W, Led T w0 W (R ys.length ++ marks1 w.heap.size) → Q .normal { a with defers := { target := .collected w.heap.size, args := #[] } :: a.defers } W)
    (hstop : ∀ c W lx, X c lx → Led T w0 W (lx ++ marks1 w.heap.size) → c.wpIn Fence.wide n Try.prog Q { a with defers := { target := .collected w.heap.size, args := #[] } :: a.defers } W) :
    (Code.rangeFunc gop ps assign body).wpIn Fence.wide n Try.prog Q a w := by
  refine wp_rangeL (β := Nat × Option ME) hg (enters_of Try.func69 (by kernel_rfl) rfl) (fun b => match b.2 with | none => R b.1 | some x => R b.1 ++ [valsT [x.v]]) X (fun b => b = (ys.length, none))
    (fun b xs b' => ∃ x, b.2 = some x ∧ b.1 < ys.length ∧ (ys.map ME.plain)[b.1]? = some x.plain ∧ xs = #[.int .i64 (b.1 : Int), x.val] ∧ b' = (b.1 + 1, none))
    (fun b xs b' ⟨_, _, _, _, hx, _⟩ => by rw [hx, hps]; rfl) (0, none) h0 ?_ ?_ (fun b W hF hj => by subst hF; exact hdone W hj) hstop
  · rintro ⟨k, ox⟩ xs b' W o0 ⟨x, rfl, hk, hp, rfl, rfl⟩ hj
    exact hround k x W o0 hk hp hj
  · intro J' Jx' hJ hC hY W hW'
    have hmk : ∀ k W, J' (k, none) W → w.heap.size + 1 < W.heap.size := fun k W h => by
      obtain ⟨o', h2⟩ := (hJ (k, none) W h).exact_of_some
      exact (Array.getElem?_eq_some_iff.1 (Led.at_mark (m := []) (by simpa using h2)).2).1
    refine CallsIn.mono (all_iter (n - 1) (w.heap.size + 1) bx ra rc ys hL hnn (fun k W => J' (k, none) W) (fun k x W => J' (k, some x) W ∧ (ys.map ME.plain)[k]? = some x.plain) Jx' (fun k W h => hA W (hJ _ W h).tch) ?_ ?_ W hW') ?_
    · intro k W W' x h ht hin hb hp
      refine ⟨hC (k, none) W (k, some x) W' h ?_ ?_, hp⟩
      · have h1 := (hJ _ W h).valsNew (vs := [x.v]) ht (by simpa using hin) (by simpa using hb)
        exact h1.swapEnd
      · have hlt := hmk k W h
        exact ⟨ht.block _ (by omega) (by simp), ht.block _ hlt (by simp)⟩
    · rintro k x W hk ⟨h, hp⟩
      exact hY (k, some x) _ (k + 1, none) W ⟨x, rfl, hk, hp, rfl, rfl⟩ h
    · rintro e W ⟨hv, ⟨k, hk, hj⟩ | hx⟩
      · exact ⟨hv, .inl ⟨(k, none), by rw [hk], hj⟩⟩
      · exact ⟨hv, .inr hx⟩
theorem all_not_nil (fn : Fn) (x y : Array Value) (w : World) : (binOp .eql 47 (.func fn x y) .nilFunc).run Try.prog w = .ok (.bool false) w := by kernel_rfl
theorem plain_nodes_eq {x y : ME} (h : y.plain = x.plain) : x.v.nodes = y.v.nodes := by
  rw [← MT.plain_nodes x.v, ← MT.plain_nodes y.v, show x.v.plain = x.plain.v from rfl, ← h]; rfl
/-- What lies there between two rounds. -/
def overR (a2 : Option Addr) (n2 c2 many b4 b5 b6 b7 : Nat) (k : Nat) : List Thing :=
  [box b4 32 #[.slice a2 n2 c2], box b5 3 #[.int .i64 (many : Int)], box b6 4 #[.bool false], box b7 3 #[.int .i64 (k : Int)], fact (k = 0 ∨ k < many)]
set_option maxHeartbeats 4000000 in
theorem over15_in (n : Nat) (w : World) (bx : Nat) (ra : Option Addr) (rc : Nat) (ys ls : List ME) (a2 : Option Addr) (c2 many : Nat) (hA : AllAt w bx ra rc ys) (hyn : ∀ y ∈ ys, y.v.nodes ≤ 256) (hE : EntsAt w a2 ls) (hin : ∀ x ∈ ls, x.v.In w ∧ x.v.nodes ≤ 256)
    (hp : ys.map ME.plain = ls.map ME.plain) (hlen : ls.length ≤ 1048576) (hm : many ≤ 10000) :
    CallsIn Fence.wide n Try.prog 47 #[.func (.func 69) #[] #[.pointer (some ⟨bx, 0, none⟩)], .slice a2 ls.length c2, .int .i64 (many : Int)] w fun e w' => e = .returned (.bool true) ∧ Touch [] w w' := by
  have hyl : ys.length = ls.length := by have := congrArg List.length hp; simpa using this
  have HA := Lib.hid (fun W (hW : Touch [] w W) => hA.touch hW)
  have HE := Lib.hid (fun W (hW : Touch [] w W) => hE.touch hW)
  have HI := Lib.hid (fun x (hx : x ∈ ls) W (hW : Touch [] w W) => (hin x hx).1.touch0 hW)
  have HN := Lib.hid (fun x (hx : x ∈ ls) => (hin x hx).2)
  have HP := Lib.hid hp
  have HYL := Lib.hid hyl
  have HYN := Lib.hid hyn
  clear hA hE hin hp hyl hyn
  refine callsIn_of_wp_marks Try.func47 rfl trivial ?_ rfl
  simp only [Try.ntmps47, List.size_toArray, List.length_cons, List.length_nil, Nat.reduceAdd, Nat.reduceSub, Array.replicate_succ, Array.replicate_zero, List.push_toArray, List.append_toArray, List.nil_append, List.cons_append]
  have hnil := all_not_nil
  gi_wp2_with fail
  refine wpIn_name ?_
  intro w4 hw4
  have HL3 := Lib.hid (((Led.nil' w).al3 rfl).al1 hw4)
  simp only [List.nil_append, List.cons_append, World.size_alloc] at HL3
  obtain ⟨b7, hb7⟩ : ∃ b, w.heap.size + 1 + 1 + 1 = b := ⟨_, rfl⟩
  rw [hb7] at HL3 ⊢
  obtain ⟨b6, hb6⟩ : ∃ b, w.heap.size + 1 + 1 = b := ⟨_, rfl⟩
  rw [hb6] at HL3 ⊢
  obtain ⟨b5, hb5⟩ : ∃ b, w.heap.size + 1 = b := ⟨_, rfl⟩
  rw [hb5] at HL3 ⊢
  obtain ⟨b4, hb4⟩ : ∃ b, w.heap.size = b := ⟨_, rfl⟩
  rw [hb4] at HL3 ⊢
  clear hb7 hb6 hb5 hb4 hw4 hnil
  have HL5 : Hid (Led [] w w4 (overR a2 ls.length c2 many b4 b5 b6 b7 0)) := HL3.out.addFact (p := (0 = 0 ∨ 0 < many)) (.inl rfl)
  clear HL3
  refine range_allQ (bx := bx) (ra := ra) (rc := rc) (ys := ys) rfl rfl (by rw [HYL.out]; exact hlen) HYN.out (overR a2 ls.length c2 many b4 b5 b6 b7)
    (fun c lx => c = .exit 0 ∧ ∃ k, lx = (overR a2 ls.length c2 many b4 b5 b6 b7 k).set 4 (fact (k ≤ ls.length ∧ k = max 1 many))) (fun W hW => HA.out W hW) HL5.out ?hround ?hdone ?hstop
  case hround =>
    intro k x W o0 hk hxk h
    have hk' : k < ls.length := by rw [← HYL.out]; exact hk
    rw [HP.out, List.getElem?_map, List.getElem?_eq_getElem hk'] at hxk
    have HX : Hid (ls[k].plain = x.plain) := by unfold Hid; simpa using hxk
    obtain ⟨D, hD⟩ : ∃ D, w4.heap.size = D := ⟨_, rfl⟩
    rw [hD] at h ⊢
    have HK := Lib.hid h
    clear h hxk hD
    rw [ent_eq]
    gi_wp2
    refine ⟨_, HK.out.alloc _ _, fun W2 o h2 => ?_⟩
    obtain ⟨be, hbe⟩ : ∃ b, W.heap.size = b := ⟨_, rfl⟩
    rw [hbe] at h2 ⊢
    have HK2 := Lib.hid h2
    simp only [overR, marks, List.nil_append, List.cons_append] at HK2
    clear hbe h2 HK
    have HFa : Hid (k = 0 ∨ k < many) := HK2.out.fact 4 rfl
    have HVX : Hid (x.v.In W2) := HK2.out.valsIn 5 rfl _ (by simp)
    have HLK := Lib.hid (HI.out ls[k] (List.getElem_mem hk') W2 HK2.out.tch)
    have HLN := Lib.hid (HN.out ls[k] (List.getElem_mem hk'))
    obtain ⟨b2, o2, rfl, hbb2, hent⟩ := HE.out W2 HK2.out.tch k hk'
    generalize ls[k] = y at hent HX HLK HLN
    have HY1 := Lib.hid hent
    have HX1 : Hid (EntAt W2 be 0 x) := by obtain ⟨c0, c1, c2, c3, c4, c5, c6, _⟩ := HK2.out.c7 8 rfl; exact ⟨c0, c1, c2, c3, c4, c5, c6⟩
    obtain ⟨_, _, _, _, _, _, _, _, zx, _, _⟩ := HK2.out.c7 8 rfl
    obtain ⟨n0, fn, zn, _, _⟩ := HK2.out.c1 3 rfl
    obtain ⟨l0, _, zl, _, _⟩ := HK2.out.c1 0 rfl
    obtain ⟨m0, _, zm, _, _⟩ := HK2.out.c1 1 rfl
    have HN0 := Lib.hid n0
    have HL0 := Lib.hid l0
    have HSE := Lib.hid (fun W (hW : Touch [] W2 W) => SameEntry_ref x y W (HVX.out.touch0 hW) (HLK.out.touch0 hW) (by rw [plain_nodes_eq HX.out]; have := HLN.out; omega) (by have := HLN.out; omega))
    have HEQ : Hid (x.v.nodes ≤ 256 ∧ y.v.nodes ≤ 256 ∧ x.plain = y.plain) := ⟨by rw [plain_nodes_eq HX.out]; exact HLN.out, HLN.out, HX.out.symm⟩
    clear hent
    simp only [ent_eq] at HSE
    obtain ⟨x0, x1, x2, x3, x4, x5, x6⟩ := HX1.out
    obtain ⟨y0, y1, y2, y3, y4, y5, y6⟩ := HY1.out
    simp only [Nat.zero_add] at x1 x2 x3 x4 x5 x6
    have hg1 : ¬ (ls.length : Int) ≤ (k : Int) := by omega
    have hg2 : ¬ ls.length ≤ k := by omega
    have hg3 : (k : Int) < (ls.length : Int) := by omega
    have hg4 : decide ((ls.length : Int) ≤ (k : Int)) = false := by simp; omega
    have hk0 : (0 : Int) ≤ (k : Int) := by omega
    gi_wp2_with fail
    refine region_held_round (S := fun w' => w'.cell? ⟨b7, 0, none⟩ = some (.int .i64 (k : Int)) ∧ w'.cell? ⟨b4, 0, none⟩ = some (.slice (some ⟨b2, o2, none⟩) ls.length c2) ∧
      (w'.cell? ⟨be, 0, none⟩ = some (.int .i64 x.sync) ∧ w'.cell? ⟨be, 1, none⟩ = some (.int .i64 x.thread) ∧ w'.cell? ⟨be, 2, none⟩ = some (.int .i64 x.branch) ∧ w'.cell? ⟨be, 3, none⟩ = some (.int .i64 x.flag) ∧ w'.cell? ⟨be, 4, none⟩ = some (.int .i64 x.v.kind) ∧ w'.cell? ⟨be, 5, none⟩ = some (.int .i64 x.v.num) ∧ w'.cell? ⟨be, 6, none⟩ = some (.slice x.v.addr x.v.parts.length x.v.cap)) ∧
      (w'.cell? ⟨b2, o2 + k * 7, none⟩ = some (.int .i64 y.sync) ∧ w'.cell? ⟨b2, o2 + k * 7 + 1, none⟩ = some (.int .i64 y.thread) ∧ w'.cell? ⟨b2, o2 + k * 7 + 2, none⟩ = some (.int .i64 y.branch) ∧ w'.cell? ⟨b2, o2 + k * 7 + 3, none⟩ = some (.int .i64 y.flag) ∧ w'.cell? ⟨b2, o2 + k * 7 + 4, none⟩ = some (.int .i64 y.v.kind) ∧ w'.cell? ⟨b2, o2 + k * 7 + 5, none⟩ = some (.int .i64 y.v.num) ∧ w'.cell? ⟨b2, o2 + k * 7 + 6, none⟩ = some (.slice y.v.addr y.v.parts.length y.v.cap)))
      (by rintro ⟨_, _, h⟩; exact h) (by kernel_rfl) (by kernel_rfl) ?_ (fun hHeld => ?_)
    · (try dsimp only)
      go_keep
    refine wpAnyH_takeD (i := 0) (d := some 15) (v := ?_) rfl rfl (by kernel_rfl) (by kernel_rfl) (by kernel_rfl) (fun _ _ _ h => h) (Or.inl ⟨by rfl, ?_⟩) (by assumption) ?_
    rotate_left
    · intro w hSw
      (try dsimp only at hSw)
      first | (go_simp; done) | (go_simp; with_reducible rfl)
    (try simp only [Act.put, List.setIfInBounds_toArray, List.set_cons_zero, List.set_cons_succ])
    refine wpAnyH_takeD (i := 1) (d := some 16) (v := ?_) rfl rfl (by kernel_rfl) (by kernel_rfl) (by kernel_rfl) (fun _ _ _ h => h) (Or.inl ⟨by rfl, ?_⟩) (by assumption) ?_
    rotate_left
    · intro w hSw
      (try dsimp only at hSw)
      first | (go_simp; done) | (go_simp; with_reducible rfl)
    (try simp only [Act.put, List.setIfInBounds_toArray, List.set_cons_zero, List.set_cons_succ])
    refine wpAnyH_takeD (i := 2) (d := some 17) (v := ?_) rfl rfl (by kernel_rfl) (by kernel_rfl) (by kernel_rfl) (fun _ _ _ h => h) (Or.inl ⟨by rfl, ?_⟩) (by assumption) ?_
    rotate_left
    · intro w hSw
      (try dsimp only at hSw)
      first | (go_simp; done) | (go_simp; with_reducible rfl)
    (try simp only [Act.put, List.setIfInBounds_toArray, List.set_cons_zero, List.set_cons_succ])
    refine wpAnyH_takeD (i := 3) (d := some 18) (v := ?_) rfl rfl (by kernel_rfl) (by kernel_rfl) (by kernel_rfl) (fun _ _ _ h => h) (Or.inl ⟨by rfl, ?_⟩) (by assumption) ?_
    rotate_left
    · intro w hSw
      (try dsimp only at hSw)
      first | (go_simp; done) | (go_simp; with_reducible rfl)
    (try simp only [Act.put, List.setIfInBounds_toArray, List.set_cons_zero, List.set_cons_succ])
    refine wpAnyH_takeD (i := 4) (d := some 19) (v := ?_) rfl rfl (by kernel_rfl) (by kernel_rfl) (by kernel_rfl) (fun _ _ _ h => h) (Or.inl ⟨by rfl, ?_⟩) (by assumption) ?_
    rotate_left
    · intro w hSw
      (try dsimp only at hSw)
      first | (go_simp; done) | (go_simp; with_reducible rfl)
    (try simp only [Act.put, List.setIfInBounds_toArray, List.set_cons_zero, List.set_cons_succ])
    refine wpAnyH_takeD (i := 5) (d := some 20) (v := ?_) rfl rfl (by kernel_rfl) (by kernel_rfl) (by kernel_rfl) (fun _ _ _ h => h) (Or.inl ⟨by rfl, ?_⟩) (by assumption) ?_
    rotate_left
    · intro w hSw
      (try dsimp only at hSw)
      first | (go_simp; done) | (go_simp; with_reducible rfl)
    (try simp only [Act.put, List.setIfInBounds_toArray, List.set_cons_zero, List.set_cons_succ])
    refine wpAnyH_takeD (i := 6) (d := some 21) (v := ?_) rfl rfl (by kernel_rfl) (by kernel_rfl) (by kernel_rfl) (fun _ _ _ h => h) (Or.inl ⟨by rfl, ?_⟩) (by assumption) ?_
    rotate_left
    · intro w hSw
      (try dsimp only at hSw)
      first | (go_simp; done) | (go_simp; with_reducible rfl)
    (try simp only [Act.put, List.setIfInBounds_toArray, List.set_cons_zero, List.set_cons_succ])
    refine wpAnyH_takeD (i := 7) (d := some 22) (v := ?_) rfl rfl (by kernel_rfl) (by kernel_rfl) (by kernel_rfl) (fun _ _ _ h => h) (Or.inl ⟨by rfl, ?_⟩) (by assumption) ?_
    rotate_left
    · intro w hSw
      (try dsimp only at hSw)
      first | (go_simp; done) | (go_simp; with_reducible rfl)
    (try simp only [Act.put, List.setIfInBounds_toArray, List.set_cons_zero, List.set_cons_succ])
    refine wpAnyH_takeD (i := 8) (d := some 23) (v := ?_) rfl rfl (by kernel_rfl) (by kernel_rfl) (by kernel_rfl) (fun _ _ _ h => h) (Or.inl ⟨by rfl, ?_⟩) (by assumption) ?_
    rotate_left
    · intro w hSw
      (try dsimp only at hSw)
      first | (go_simp; done) | (go_simp; with_reducible rfl)
    (try simp only [Act.put, List.setIfInBounds_toArray, List.set_cons_zero, List.set_cons_succ])
    refine wpAnyH_takeD (i := 9) (d := some 24) (v := ?_) rfl rfl (by kernel_rfl) (by kernel_rfl) (by kernel_rfl) (fun _ _ _ h => h) (Or.inl ⟨by rfl, ?_⟩) (by assumption) ?_
    rotate_left
    · intro w hSw
      (try dsimp only at hSw)
      first | (go_simp; done) | (go_simp; with_reducible rfl)
    (try simp only [Act.put, List.setIfInBounds_toArray, List.set_cons_zero, List.set_cons_succ])
    refine wpAnyH_takeD (i := 10) (d := some 25) (v := ?_) rfl rfl (by kernel_rfl) (by kernel_rfl) (by kernel_rfl) (fun _ _ _ h => h) (Or.inl ⟨by rfl, ?_⟩) (by assumption) ?_
    rotate_left
    · intro w hSw
      (try dsimp only at hSw)
      first | (go_simp; done) | (go_simp; with_reducible rfl)
    (try simp only [Act.put, List.setIfInBounds_toArray, List.set_cons_zero, List.set_cons_succ])
    refine wpAnyH_takeD (i := 11) (d := some 26) (v := ?_) rfl rfl (by kernel_rfl) (by kernel_rfl) (by kernel_rfl) (fun _ _ _ h => h) (Or.inl ⟨by rfl, ?_⟩) (by assumption) ?_
    rotate_left
    · intro w hSw
      (try dsimp only at hSw)
      first | (go_simp; done) | (go_simp; with_reducible rfl)
    (try simp only [Act.put, List.setIfInBounds_toArray, List.set_cons_zero, List.set_cons_succ])
    refine wpAnyH_takeD (i := 12) (d := some 27) (v := ?_) rfl rfl (by kernel_rfl) (by kernel_rfl) (by kernel_rfl) (fun _ _ _ h => h) (Or.inl ⟨by rfl, ?_⟩) (by assumption) ?_
    rotate_left
    · intro w hSw
      (try dsimp only at hSw)
      first | (go_simp; done) | (go_simp; with_reducible rfl)
    (try simp only [Act.put, List.setIfInBounds_toArray, List.set_cons_zero, List.set_cons_succ])
    refine wpAnyH_takeD (i := 13) (d := some 28) (v := ?_) rfl rfl (by kernel_rfl) (by kernel_rfl) (by kernel_rfl) (fun _ _ _ h => h) (Or.inl ⟨by rfl, ?_⟩) (by assumption) ?_
    rotate_left
    · intro w hSw
      (try dsimp only at hSw)
      first | (go_simp; done) | (go_simp; with_reducible rfl)
    (try simp only [Act.put, List.setIfInBounds_toArray, List.set_cons_zero, List.set_cons_succ])
    refine wpAnyH_takeD (i := 14) (d := some 29) (v := ?_) rfl rfl (by kernel_rfl) (by kernel_rfl) (by kernel_rfl) (fun _ _ _ h => h) (Or.inl ⟨by rfl, ?_⟩) (by assumption) ?_
    rotate_left
    · intro w hSw
      (try dsimp only at hSw)
      first | (go_simp; done) | (go_simp; with_reducible rfl)
    (try simp only [Act.put, List.setIfInBounds_toArray, List.set_cons_zero, List.set_cons_succ])
    refine wpAnyH_ready (rs := [15]) (by kernel_rfl) (by simp) ?_
    refine AllReadyH.cons rfl (fun K hK => ?_) AllReadyH.nil
    go_simp
    refine (HSE.out _ (Touch.refl [] W2).drew).mono ?_
    rintro en wn ⟨cc, rfl, hcc, ht⟩
    obtain rfl : cc = true := hcc.2 HEQ.out
    have HT := Lib.hid ((Touch.refl [] W2).drew.trans' ht)
    clear ht hcc x0 x1 x2 x3 x4 x5 x6 y0 y1 y2 y3 y4 y5 y6 n0 l0 hHeld
    obtain ⟨x0, x1, x2, x3, x4, x5, x6⟩ := HX1.out.touch HT.out
    obtain ⟨y0, y1, y2, y3, y4, y5, y6⟩ := HY1.out.touch HT.out
    simp only [Nat.zero_add] at x1 x2 x3 x4 x5 x6
    have n0 := HT.out.cellOf HN0.out
    have l0 := HT.out.cellOf HL0.out
    go_simp
    refine hK.out _ _ ?_ (fun hHeld => ?_)
    · (try dsimp only)
      go_keep
    clear hK K
    (try simp only [Act.put, List.setIfInBounds_toArray, List.set_cons_zero, List.set_cons_succ])
    refine wpAnyH_takeD (i := 16) (d := some 31) (v := ?_) rfl rfl (by kernel_rfl) (by kernel_rfl) (by kernel_rfl) (fun _ _ _ h => h) (Or.inl ⟨by rfl, ?_⟩) (by assumption) ?_
    rotate_left
    · intro w hSw
      (try dsimp only at hSw)
      first | (go_simp; done) | (go_simp; with_reducible rfl)
    (try simp only [Act.put, List.setIfInBounds_toArray, List.set_cons_zero, List.set_cons_succ])
    refine wpAnyH_takeD (i := 17) (d := some 32) (v := ?_) rfl rfl (by kernel_rfl) (by kernel_rfl) (by kernel_rfl) (fun _ _ _ h => h) (Or.inl ⟨by rfl, ?_⟩) (by assumption) ?_
    rotate_left
    · intro w hSw
      (try dsimp only at hSw)
      first | (go_simp; done) | (go_simp; with_reducible rfl)
    (try simp only [Act.put, List.setIfInBounds_toArray, List.set_cons_zero, List.set_cons_succ])
    refine wpAnyH_done (by kernel_rfl) ?_ _
    have HK3 := Lib.hid (HK2.out.touch HT.out)
    clear x0 x1 x2 x3 x4 x5 x6 y0 y1 y2 y3 y4 y5 y6 n0 l0 hHeld fn m0 zx zn zl zm HK2 hbb2
    obtain ⟨n0, fn, zn, _, _⟩ := HK3.out.c1 3 rfl
    obtain ⟨m0, _, zm, _, _⟩ := HK3.out.c1 1 rfl
    have n5 := HK3.out.ne 1 3 rfl rfl (by decide)
    have n6 := Ne.symm n5
    by_cases hmn : (many : Int) ≤ (k : Int) + 1
    · gi_wp2_with fail
      have hs := (HK3.out.set 3 rfl 0 (.int .i64 ((k : Int) + 1))).setFact 4 rfl (q := (k + 1 ≤ ls.length ∧ k + 1 = max 1 many)) ⟨by omega, by have := HFa.out; omega⟩
      exact ⟨_, [], ⟨rfl, k + 1, rfl⟩, hs.sel [0, 1, 2, 3, 4, 6, 7] rfl (by decide)⟩
    · gi_wp2_with fail
      have hs := (HK3.out.set 3 rfl 0 (.int .i64 ((k : Int) + 1))).setFact 4 rfl (q := (k + 1 = 0 ∨ k + 1 < many)) (.inr (by omega))
      exact ⟨[], hs.sel [0, 1, 2, 3, 4, 6, 7] rfl (by decide)⟩
  case hdone =>
    intro W h
    obtain ⟨D, hD⟩ : ∃ D, w4.heap.size = D := ⟨_, rfl⟩
    rw [hD] at h ⊢
    rw [HYL.out] at h
    have HK := Lib.hid h
    simp only [overR, marks1, List.nil_append, List.cons_append] at HK
    clear h hD
    obtain ⟨n0, fn, zn, _, _⟩ := HK.out.c1 3 rfl
    obtain ⟨l0, _, zl, _, _⟩ := HK.out.c1 0 rfl
    obtain ⟨m0, _, zm, _, _⟩ := HK.out.c1 1 rfl
    obtain ⟨q0, qf, zq, _, _⟩ := HK.out.c1 2 rfl
    have HFa : Hid (ls.length = 0 ∨ ls.length < many) := HK.out.fact 4 rfl
    gi_wp2
    all_goals have hfa := HFa.out
    all_goals exact led_ret1 Try.results47 rfl HK.out 2 rfl (by first | rfl | (simp only [beq_iff_eq]; omega)) 5 rfl (fun W' h => ⟨rfl, h.tch⟩)
  case hstop =>
    rintro c W lx ⟨rfl, k, rfl⟩ h
    obtain ⟨D, hD⟩ : ∃ D, w4.heap.size = D := ⟨_, rfl⟩
    rw [hD] at h ⊢
    have HK := Lib.hid h
    simp only [overR, marks1, List.nil_append, List.cons_append, List.set_cons_succ, List.set_cons_zero] at HK
    clear h hD
    obtain ⟨n0, fn, zn, _, _⟩ := HK.out.c1 3 rfl
    obtain ⟨l0, _, zl, _, _⟩ := HK.out.c1 0 rfl
    obtain ⟨m0, _, zm, _, _⟩ := HK.out.c1 1 rfl
    obtain ⟨q0, qf, zq, _, _⟩ := HK.out.c1 2 rfl
    have HFa : Hid (k ≤ ls.length ∧ k = max 1 many) := HK.out.fact 4 rfl
    gi_wp2
    all_goals obtain ⟨hfa, hfb⟩ := HFa.out
    all_goals exact led_ret1 Try.results47 rfl HK.out 2 rfl (by first | rfl | (simp only [beq_iff_eq]; omega)) 5 rfl (fun W' h => ⟨rfl, h.tch⟩)
theorem over15 (w : World) (bx : Nat) (ra : Option Addr) (rc : Nat) (ys ls : List ME) (a2 : Option Addr) (c2 many : Nat) (hA : AllAt w bx ra rc ys) (hyn : ∀ y ∈ ys, y.v.nodes ≤ 256) (hE : EntsAt w a2 ls) (hin : ∀ x ∈ ls, x.v.In w ∧ x.v.nodes ≤ 256)
    (hp : ys.map ME.plain = ls.map ME.plain) (hlen : ls.length ≤ 1048576) (hm : many ≤ 10000) :
    Calls Try.prog 47 #[.func (.func 69) #[] #[.pointer (some ⟨bx, 0, none⟩)], .slice a2 ls.length c2, .int .i64 (many : Int)] w fun e w' => e = .returned (.bool true) ∧ Touch [] w w' :=
  (callsIn_wide (n := 0)).1 (over15_in 0 w bx ra rc ys ls a2 c2 many hA hyn hE hin hp hlen hm)
end Go.Proofs.Ytihmbgdkllmkaaa
