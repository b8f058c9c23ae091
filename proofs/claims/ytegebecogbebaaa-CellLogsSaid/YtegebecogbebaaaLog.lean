/-
  Layer 1: oldest and Log (cell.go): the last 1024 accesses, in a row of their own; the iterator over them.
-/
import Derived.Test.YtegebecogbebaaaWk
import Derived.Laws.MakeOwn
import Derived.LoopTactic
import Derived.RangeFuncBound
namespace Go.Proofs.Ytegebecogbebaaa
open Go.RowKit Go.Shelf
set_option maxRecDepth 100000
set_option linter.unusedVariables false
set_option linter.unusedSimpArgs false
attribute [local go_sem] Oper.semAt_some

/-- The number of the first access that is remembered. -/
def logF (L : List Acc) : Nat := L.length - min L.length 1024
/-- Those that are remembered. -/
def logL (L : List Acc) : List Acc := L.drop (logF L)
theorem logL_len (L : List Acc) : (logL L).length = min L.length 1024 := by simp [logL, logF]; omega

theorem made_access (n : Nat) (hn : n ≤ 1024) (W : World) : (Instr.makeSlice 57 (.int .i64 0) (.int .u64 (n : Int))).run Try.prog W =
    .ok (.slice (some ⟨W.heap.size, 0, none⟩) 0 n) (W.alloc (.cells (madeCells #[.int .i64 0, .int .i64 0, .int .u64 0, .int .u64 0, .bool false] (n * 5)) 54)) := by
  obtain ⟨i0, hi, hz0, hz1, hz2⟩ := info_parts info_access
  have hr := run_make (P := Try.prog) W 57 54 i0 _ Try.underlying57 hi hz0 .i64 .u64 0 n (by omega) (by omega) (by rw [hz2]; omega) (by omega)
  rw [hz1] at hr
  simpa [Value.cells] using hr

set_option maxHeartbeats 1000000 in
theorem oldest_any (w : World) (g : Nat) (v1 v2 : Value) (r : List Acc) (s : Ar) (hA : ArAt w g v1 v2 r s) (hn : s.L.length < 4611686018427387904) :
    Calls Try.prog 58 #[.pointer (some ⟨g, 0, none⟩)] w fun e w' => ∃ gg cap, e = .returned (.tuple #[.int .u64 (logF s.L : Int), .slice (some ⟨gg, 0, none⟩) (logL s.L).length cap]) ∧
      w'.ownsRow 0 54 5 (.slice (some ⟨gg, 0, none⟩) (logL s.L).length cap) (logL s.L).length (accCells (logL s.L)) ∧ w.heap.size ≤ gg ∧ Touch [] w w' := by
  obtain ⟨i0, hi, hz0, hz1, hz2⟩ := info_parts info_access
  have hrl : r.length = min s.L.length 1024 := hA.ring.1
  have hll := logL_len s.L
  obtain ⟨a1, cc, rfl, hc1, hc2⟩ := own_val hA.log
  have h0 := hA.blk.cell 0
  have h1 := hA.blk.cell 1
  simp at h0 h1
  obtain ⟨N, hN⟩ : ∃ N, N = s.L.length := ⟨_, rfl⟩
  obtain ⟨M, hM⟩ : ∃ M, M = r.length := ⟨_, rfl⟩
  have hF : logF s.L = N - M := by unfold logF; omega
  have hM1 : M ≤ 1024 := by omega
  have hM2 : M ≤ N := by omega
  rw [← hN] at h0 hn
  rw [← hM] at h1
  have HA := Lib.hid hA
  have HH : Hid (N = s.L.length ∧ M = r.length ∧ logF s.L = N - M) := ⟨hN, hM, hF⟩
  have HLL : Hid ((logL s.L).length = M) := by unfold Hid; omega
  have hmk := made_access M hM1
  have hgl := hA.blk.lt
  clear hA hN hM hF hrl hll
  have hw1 : IntKind.u64.wrap ((N : Int) - (M : Int)) = ((N - M : Nat) : Int) := by rw [IntKind.wrap_u64]; omega
  go_enter Try.func58, Try.ntmps58
  go_wp2
  go_loopw [6, 23] (fun v i wr => ∃ (k gg cap : Nat), k ≤ M ∧ i = .int .u64 (k : Int) ∧ v = .slice (some ⟨gg, 0, none⟩) k cap ∧ w.heap.size ≤ gg ∧ Hid (wr.ownsRow 0 54 5 (.slice (some ⟨gg, 0, none⟩) k cap) k (accCells ((logL s.L).take k))) ∧ Hid (Touch [] w wr)) (fun _ i _ => M - (intOf i).toNat)
  case atStart =>
    refine ⟨0, w.heap.size, M, Nat.zero_le _, rfl, rfl, Nat.le_refl _, ?_, (Touch.refl [] w).alloc _⟩
    have := World.ownsRow_made (base := 0) (e := 54) (size := 5) w (madeCells #[.int .i64 0, .int .i64 0, .int .u64 0, .int .u64 0, .bool false] (M * 5)) M (Nat.zero_le _) (by simp only [maxLen]; omega) (by rw [size_madeCells])
    refine Lib.hid ?_
    simpa [accCells] using this
  case round =>
    obtain ⟨k, gg, cap, hk, rfl, rfl, hgg, HO, HT⟩ := hrel
    by_cases hlt : k < M
    · have hlt' : (k : Int) < (M : Int) := by omega
      obtain ⟨e1, e2, e3⟩ := HH.out
      have hMN := HA.out.ring.1
      obtain ⟨g1, cap1, cur, hv, hcur, _, _, _, _⟩ := own_form HA.out.log (by omega)
      injection hv with hv1 hv2 hv3
      obtain ⟨q, hq, hq1⟩ : ∃ q : Nat, q = (N - M + k) % 1024 ∧ q < 1024 := ⟨_, rfl, Nat.mod_lt _ (by omega)⟩
      have hqt : (((N - M : Nat) : Int) + (k : Int)).tmod 1024 = (q : Int) := by rw [Int.tmod_eq_emod_of_nonneg (by omega)]; omega
      have hqM : q < M := by
        by_cases h : N < 1024
        · rw [hq, Nat.mod_eq_of_lt (by omega)]; omega
        · omega
      have hrq : r[q]? = (logL s.L)[k]? := by
        have := HA.out.ring.2 (N - M + k) (by omega) (by omega)
        rw [← hq] at this
        rw [this, logL, List.getElem?_drop, e3]
      have hrq' : r[q]? = some r[q] := List.getElem?_eq_getElem (by omega)
      obtain ⟨x, hx⟩ : ∃ x : Acc, x = r[q]'(by omega) := ⟨_, rfl⟩
      have hlk : (logL s.L).take (k + 1) = (logL s.L).take k ++ [x] := by
        have hkl : k < (logL s.L).length := by rw [HLL.out]; exact hlt
        rw [List.take_succ_eq_append_getElem hkl]
        rw [hrq', List.getElem?_eq_getElem hkl] at hrq
        injection hrq with hrq
        rw [hx, hrq]
      have hlog := own_touch HA.out.log HT.out (by simp)
      subst hv1
      subst hv3
      have hln := accCells_length r
      have hcs : ∀ j, j < 5 → wr.cell? ⟨g1, q * 5 + j, none⟩ = x.cells[j]? := fun j hj => by
        have h1 := hlog.cells (g := g1) rfl (q * 5 + j) ((accCells r)[q * 5 + j]'(by omega)) (List.getElem?_eq_getElem _)
        rw [Addr.add_lit, Nat.zero_add] at h1
        rw [h1, ← List.getElem?_eq_getElem, accCells_get r q (by omega) j hj, hx]
      have c0 := hcs 0 (by omega)
      have c1 := hcs 1 (by omega)
      have c2 := hcs 2 (by omega)
      have c3 := hcs 3 (by omega)
      have c4 := hcs 4 (by omega)
      simp only [Acc.cells, List.getElem?_cons_succ, List.getElem?_cons_zero, Nat.add_zero] at c0 c1 c2 c3 c4
      have h1' : wr.cell? ⟨g, 1, none⟩ = some (.slice (some ⟨g1, 0, none⟩) M cc) := ((HA.out.blk.touch HT.out (by simp)).cell 1).trans ((HA.out.blk.cell 1).symm.trans h1)
      have HN : Hid (∀ j u, x.cells[j]? = some u → (wr.alloc x.box).cell? ((⟨wr.heap.size, 0, none⟩ : Addr).add j) = some u) := World.news_of_block (cs := #[.int .i64 (x.op : Int), .int .i64 (x.at_ : Int), .int .u64 (x.old : Int), .int .u64 (x.new : Int), .bool x.did]) (t := 54) (fr := (0, 0)) (heap_alloc_new wr x.box)
      have HX := Lib.hid hlk
      have hqM' : (q : Int) < (M : Int) := by omega
      have hS : ((N - M : Nat) : Int) + (k : Int) ≤ 4611686018427387904 := by omega
      clear e1 e2 e3 hMN hq hrq hrq' hx hlk hlog hln hcs hcur
      go_wp2_with (at_builtin; refine wpList_append_lies _ rfl (.tmp 26) (.tmp 37) 57 rfl 0 54 i0 _ 5 40 Try.underlying57 hi hz0 hz1 hz2 rfl (by decide) (.slice (some ⟨gg, 0, none⟩) k cap) k (accCells ((logL s.L).take k)) rfl (HO.out.alloc x.box) ⟨wr.heap.size, 0, none⟩ 1 1 x.cells rfl rfl HN.out (acc_one x) (by omega) (by simp only [maxLen]; omega) (by omega) (Nat.zero_le _) _ rfl ?_; intro g' cap' w1 hown hgrow hat hlt2; have H1 := Lib.hid hown; have H2 := Lib.hid hgrow; have H3 := Lib.hid hat; clear hown hgrow hat)
      go_roundw
      case rel =>
        refine ⟨k + 1, g', cap', by omega, by go_num, rfl, ?_, ?_, ?_⟩
        · rcases H3.out with h | h
          · have : gg = g' := by simpa [Value.ownBlock] using h
            omega
          · rw [h, World.size_alloc]; have := HT.out.size; omega
        · refine Lib.hid ?_
          rw [HX.out, accCells_append]
          simpa [accCells] using H1.out
        · exact (HT.out.alloc _).grown H2.out (fun j hj => .inr (by
            have : gg = j := by simpa [Value.ownBlock] using hj
            omega))
      case measure => simp [intOf]; omega
    · obtain rfl : M = k := by omega
      have hlt' : ¬ (M : Int) < (M : Int) := by omega
      go_wp2
      go_ret2
      refine ⟨gg, cap, ?_, ?_, hgg, HT.out⟩
      · rw [HLL.out, HH.out.2.2]; rfl
      · have := HO.out
        rw [List.take_of_length_le (by rw [HLL.out]; exact Nat.le_refl _)] at this
        rw [HLL.out]; exact this

/-- A made log: the boxes of its list and of its first number, and the list's row. -/
def LogAt (w : World) (bl bf gg : Nat) (L : List Acc) : Prop := ∃ cap, Blk w bl 57 #[.slice (some ⟨gg, 0, none⟩) (logL L).length cap] ∧ Blk w bf 39 #[.int .u64 (logF L : Int)] ∧
  w.ownsRow 0 54 5 (.slice (some ⟨gg, 0, none⟩) (logL L).length cap) (logL L).length (accCells (logL L))
theorem LogAt.keep {w w' : World} {bl bf gg : Nat} {L : List Acc} (h : LogAt w bl bf gg L) (hs : Same [bl, bf, gg] w w') : LogAt w' bl bf gg L := by
  obtain ⟨cap, h1, h2, h3⟩ := h
  exact ⟨cap, h1.keep (hs _ (by simp)), h2.keep (hs _ (by simp)), own_keep h3 (fun k hk => hs k (by
    have : k = gg := by simpa [sb, Value.ownBlock] using hk
    simp [this]))⟩
theorem LogAt.lt {w : World} {bl bf gg : Nat} {L : List Acc} (h : LogAt w bl bf gg L) : ∀ k ∈ [bl, bf, gg], k < w.heap.size := by
  obtain ⟨cap, h1, h2, h3⟩ := h
  intro k hk
  simp only [List.mem_cons, List.not_mem_nil, or_false] at hk
  rcases hk with rfl | rfl | rfl
  · exact h1.lt
  · exact h2.lt
  · exact own_lt h3 k (by simp [sb, Value.ownBlock])

theorem Log_any (w : World) (g : Nat) (fp : List Nat) (s : Ar) (hI : IsAr w g fp s) (hn : s.L.length < 4611686018427387904) :
    Calls Try.prog 27 #[.pointer (some ⟨g, 0, none⟩)] w fun e w' => ∃ bl bf gg, e = .returned (.func (.func 59) #[] #[.pointer (some ⟨bl, 0, none⟩), .pointer (some ⟨bf, 0, none⟩)]) ∧
      LogAt w' bl bf gg s.L ∧ (∀ k ∈ [bl, bf, gg], w.heap.size ≤ k) ∧ Touch [] w w' := by
  obtain ⟨v1, v2, r, hA, rfl⟩ := hI
  have h2 := hA.blk.cell 2
  simp at h2
  have hm1 := hA.most1
  have H := Lib.hid (oldest_any w g v1 v2 r s hA hn)
  clear hA hn
  go_enter Try.func27, Try.ntmps27
  go_wp2_with (go_at_call 51; refine (missing_no _ _ _ h2 hm1).mono ?_; rintro e w' ⟨rfl, rfl⟩)
  refine H.out.mono ?_
  rintro e w1 ⟨gg, cap, rfl, ho, hg, ht⟩
  have HO := Lib.hid ho
  have HT := Lib.hid ht
  clear ho ht
  go_wp2
  go_ret
  refine ⟨_, _, gg, rfl, ⟨cap, ?_, ?_, (HO.out.alloc _).alloc _⟩, ?_, (HT.out.alloc _).alloc _⟩
  · have := Blk.new (w1.alloc (.cells #[.int .u64 (logF s.L : Int)] 39)) 57 #[.slice (some ⟨gg, 0, none⟩) (logL s.L).length cap]
    simpa using this
  · exact (Blk.new w1 _ _).alloc _
  · have := HT.out.size
    intro k hk
    simp only [List.mem_cons, List.not_mem_nil, or_false] at hk
    rcases hk with rfl | rfl | rfl <;> omega

theorem Log_wk {S : List Nat} {B : Nat} {w0 w : World} {g : Nat} {s : Ar} (hB : B ≤ w0.heap.size) (h : Wk S B w0 w g s) (hn : s.L.length < 4611686018427387904) :
    Calls Try.prog 27 #[.pointer (some ⟨g, 0, none⟩)] w fun e w' => ∃ bl bf gg, e = .returned (.func (.func 59) #[] #[.pointer (some ⟨bl, 0, none⟩), .pointer (some ⟨bf, 0, none⟩)]) ∧
      LogAt w' bl bf gg s.L ∧ Wk ([bl, bf, gg] ++ S) B w0 w' g s ∧ Touch [] w w' ∧ (∀ k ∈ [bl, bf, gg], w.heap.size ≤ k) := by
  obtain ⟨fp, hI, hf, hb, hl⟩ := h
  refine (Log_any w g fp s hI hn).mono ?_
  rintro e w' ⟨bl, bf, gg, rfl, hL, hge, ht⟩
  have hs := hb.size
  refine ⟨bl, bf, gg, rfl, hL, ⟨fp, hI.touch ht (by simp), fun k hk => ⟨(hf k hk).1, fun hc => ?_⟩, hb.trans (ht.below_of (by omega) (by simp)), fun k hk => ?_⟩, ht, hge⟩
  · rcases List.mem_append.1 hc with h1 | h1
    · have := hge k h1; have := hI.lt k hk; omega
    · exact (hf k hk).2 h1
  · rcases List.mem_append.1 hk with h1 | h1
    · exact hL.lt k h1
    · exact Nat.lt_of_lt_of_le (hl k h1) ht.size
theorem log_not_nil (fn : Fn) (x y : Array Value) (w : World) : (binOp .eql 50 (.func fn x y) .nilFunc).run Try.prog w = .ok (.bool false) w := by kernel_rfl
end Go.Proofs.Ytegebecogbebaaa
