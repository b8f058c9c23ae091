/-
  CellLogs (betrothallaw01/law.go): its walk.
-/
import Derived.Test.YtegebecogbebaaaActE
import Derived.Test.YtegebecogbebaaaCellLogsP
import Derived.Test.YtegebecogbebaaaOpenW
import Derived.Test.YtegebecogbebaaaIs01
import Derived.Test.YtegebecogbebaaaFrameS
import Derived.LoopNIn
namespace Go.Proofs.Ytegebecogbebaaa
open Go.RowKit Go.Shelf
set_option maxRecDepth 100000
set_option linter.unusedVariables false
set_option linter.unusedSimpArgs false
attribute [local go_sem] Oper.semAt_some
attribute [local go_sem ↓ high] askedIn_wideL

theorem one_call (W : World) (T b : Nat) (c : Call01) (hb : W.heap.size = b) : StructsAt (W.alloc (.cells #[.int .i64 c.what, .int .i64 c.at_, .int .u64 (c.x : Int), .int .u64 (c.y : Int)] T)) (some ⟨b, 0, none⟩) 4 Call01.cells [c] := by
  subst hb
  have hB := Blk.new W T #[.int .i64 c.what, .int .i64 c.at_, .int .u64 (c.x : Int), .int .u64 (c.y : Int)]
  intro i hi
  obtain rfl : i = 0 := by simp at hi; omega
  refine ⟨_, _, rfl, by simp, fun j hj => ?_⟩
  have := hB.cell j
  simp only [Nat.zero_mul, Nat.zero_add]
  rw [this]
  simp [Call01.cells]

theorem alloc_store (z : List Nat) (m : Nat) (hm : m ≤ 40) (hz : z.length = m) : (Ar.fresh 1000).allocA (m : Int) = (storeAr z 0, 0, 0) := by
  unfold Ar.allocA
  rw [if_neg (by omega), if_neg (by simp [Ar.fresh]; omega)]
  simp only [Ar.fresh, storeAr, hz, List.range_zero, List.map_nil, List.length_nil, List.nil_append, Int.toNat_natCast]
  refine Prod.ext ?_ rfl
  simp only [Ar.mk.injEq, and_self, and_true]
  apply List.ext_getElem
  · simp
  · intro i h1 h2
    simp [storeWord]
/-- What lies there after t stores. -/
def logsR (b3 b5 b6 bx g : Nat) (a1 : Option Addr) (m c1 : Nat) (c : Call01) (z : List Nat) (t : Nat) : List Thing :=
  [box b3 38 #[.slice a1 m c1], box b5 41 #[.int .i64 c.what, .int .i64 c.at_, .int .u64 (c.x : Int), .int .u64 (c.y : Int)], box b6 4 #[.bool false], box bx 41 #[.int .i64 c.what, .int .i64 c.at_, .int .u64 (c.x : Int), .int .u64 (c.y : Int)], arena g (storeAr z t)]

theorem store_round (z : List Nat) (m k j : Nat) (hz : z.length = m) (hj : j < m) : (storeAr z (k * m + j)).store (j : Int) ((z.getD j 0 + k) % 18446744073709551616) = (storeAr z (k * m + (j + 1)), storeAcc z (k * m + j), 0) := by
  have h := storeAr_step z (k * m + j) (by omega)
  rw [hz, Nat.mul_comm k m, Nat.mul_add_mod, Nat.mod_eq_of_lt hj, Nat.mul_add_div (by omega), Nat.div_eq_of_lt hj, Nat.add_zero, Nat.mul_comm m k] at h
  exact h

theorem logF_store (z : List Nat) (t : Nat) : logF (storeAr z t).L = t - 1024 := by simp only [logF, storeAr_len]; omega
theorem logL_store (z : List Nat) (t k : Nat) (hk : k < (logL (storeAr z t).L).length) : (logL (storeAr z t).L)[k] = storeAcc z (t - 1024 + k) ∧ t - 1024 + k < t := by
  have h2 : k < t - (t - 1024) := by
    have := hk
    rw [logL, List.length_drop, logF_store, storeAr_len] at this
    exact this
  refine ⟨?_, by omega⟩
  simp only [logL, List.getElem_drop, storeAr_get, logF_store]
theorem storeAcc_parts (z : List Nat) (m q : Nat) (hz : z.length = m) (hm : 0 < m) : ∃ r d o nw : Nat, r < m ∧ (q : Int) % (m : Int) = (r : Int) ∧ (q : Int) / (m : Int) = (d : Int) ∧ d ≤ q ∧ storeAcc z q = ⟨2, r, o, nw, true⟩ ∧ IntKind.u64.wrap ((z.getD r 0 : Int) + (d : Int)) = (nw : Int) ∧ (d = 0 → o = 0) ∧ (d ≠ 0 → IntKind.u64.wrap ((z.getD r 0 : Int) + ((d : Int) - 1)) = (o : Int)) := by
  refine ⟨q % m, q / m, (storeAcc z q).old, (storeAcc z q).new, Nat.mod_lt _ hm, by simp, by simp, Nat.div_le_self _ _, ?_, ?_, ?_, ?_⟩
  · simp [storeAcc, hz]
  · simp only [storeAcc, hz]; rw [IntKind.wrap_u64]; omega
  · intro h; simp [storeAcc, hz, h]
  · intro h
    simp only [storeAcc, hz, if_neg h]
    obtain ⟨d, hd⟩ : ∃ d, q / m = d + 1 := Nat.exists_eq_succ_of_ne_zero h
    rw [hd, IntKind.wrap_u64]
    omega
/-- What lies there in a turn of the last loop. -/
def turnR (b3 b6 ba oa m c1 bl bf gg b15 : Nat) (L : List Acc) (ex : List Thing) (k : Nat) : List Thing :=
  [box b3 38 #[.slice (some ⟨ba, oa, none⟩) m c1], box b6 4 #[.bool false], logT bl bf gg L, box b15 3 #[.int .i64 ((logF L : Int) + (k : Int))]] ++ ex

set_option maxHeartbeats 4000000 in
theorem cellLogs_in (n : Nat) (a1 : Option Addr) (m c1 : Nat) (z : List Nat) (times : Nat) (c : Call01) (w : World) (hm1 : 1 ≤ m) (hm2 : m ≤ 40) (ht : times ≤ 1500 / m) (hzl : z.length = m) (hz : WordsAt w a1 z) (hc : c.Ok) (hs : c.small = true) :
    CallsIn Fence.wide n Try.prog 5 #[.slice a1 m c1, .int .i64 (times : Int), .agg #[.int .i64 c.what, .int .i64 c.at_, .int .u64 (c.x : Int), .int .u64 (c.y : Int)]] w fun e w' => e = .returned (.bool true) ∧ Below w.heap.size w w' := by
  have HZ := Lib.hid hz
  have HZL := Lib.hid hzl
  have HC := Lib.hid hc
  have HS := Lib.hid hs
  have HT : Hid (times * m ≤ 1500) := by
    have := Nat.div_mul_le_self 1500 m
    have h2 := Nat.mul_le_mul_right m ht
    exact Nat.le_trans h2 this
  have hdv : ((1500 / m : Nat) : Int) = (1500 : Int) / (m : Int) := Int.natCast_ediv 1500 m
  have ht2 : ¬ (1500 : Int) / (m : Int) < (times : Int) := by omega
  have ht3 : (times : Int) ≤ (1500 : Int) / (m : Int) := by omega
  have hm1' : (1 : Int) ≤ (m : Int) := by omega
  have hm2' : (m : Int) ≤ 40 := by omega
  have htb : (times : Int) ≤ 1500 := by
    have := HT.out
    have h2 : times * 1 ≤ times * m := Nat.mul_le_mul_left _ hm1
    omega
  obtain ⟨ba, oa, rfl, hba, hzc⟩ := hz.2 0 (by omega)
  clear hzc
  have HV : Hid (∀ W, Below w.heap.size w W → ∀ j, j < m → W.cell? ⟨ba, oa + j, none⟩ = some (.int .u64 (z.getD j 0 : Int)) ∧ ba < W.heap.size ∧ z.getD j 0 < 18446744073709551616) := fun W hW j hj => by
    have hj2 : j < z.length := by omega
    obtain ⟨ba', oa', he, h1, h2⟩ := hz.2 j hj2
    simp at he
    obtain ⟨rfl, rfl⟩ := he
    have e : z.getD j 0 = z[j] := by simp [List.getD, hj2]
    rw [e]
    exact ⟨(hW.cell (p := ⟨ba, oa + j, none⟩) h1).trans h2, Nat.lt_of_lt_of_le h1 hW.size, hz.1 _ (List.getElem_mem hj2)⟩
  clear hz hzl hc hs ht hdv
  refine callsIn_of_wp_marks Try.func5 rfl trivial ?_ rfl
  simp only [Try.ntmps5, List.size_toArray, List.length_cons, List.length_nil, Nat.reduceAdd, Nat.reduceSub, Array.replicate_succ, Array.replicate_zero, List.push_toArray, List.append_toArray, List.nil_append, List.cons_append]
  gi_wp2_with fail
  refine ⟨trivial, nodepth, ?_⟩
  refine (callsIn_wide.2 (few01 _ 1 1 [c] 1 _ (by omega) (by omega) rfl ?hst)).mono ?_
  case hst => exact one_call _ _ _ _ (by simp)
  rintro e w0 ⟨rfl, hw0⟩
  have hfew : fewB [c] 1 = true := by simp [fewB, HS.out]
  rw [hfew]
  clear hfew
  have HL0 := Lib.hid ((((Led.nil' w).alloc _ _).alloc _ _).alloc _ _ |>.al1 hw0)
  simp only [List.nil_append, List.cons_append, World.size_alloc] at HL0
  clear hw0
  obtain ⟨bx, hbx⟩ : ∃ b, w.heap.size + 1 + 1 + 1 = b := ⟨_, rfl⟩
  rw [hbx] at HL0 ⊢
  obtain ⟨b6, hb6⟩ : ∃ b, w.heap.size + 1 + 1 = b := ⟨_, rfl⟩
  rw [hb6] at HL0 ⊢
  obtain ⟨b5, hb5⟩ : ∃ b, w.heap.size + 1 = b := ⟨_, rfl⟩
  rw [hb5] at HL0 ⊢
  obtain ⟨b3, hb3⟩ : ∃ b, w.heap.size = b := ⟨_, rfl⟩
  rw [hb3] at HL0 ⊢
  clear hbx hb6 hb5
  gi_wp2_with fail
  refine ⟨trivial, nodepth, ?_⟩
  refine (callsIn_wide.2 (HL0.out.arNew 1000 (by omega) (by omega))).mono ?_
  rintro e w1 ⟨rfl, h1⟩
  have HL1 := Lib.hid h1
  simp only [List.nil_append, List.cons_append] at HL1
  clear h1 HL0
  obtain ⟨g, hg⟩ : ∃ b, w0.heap.size = b := ⟨_, rfl⟩
  rw [hg] at HL1 ⊢
  clear hg
  obtain ⟨l0, _, zl, _, _⟩ := HL1.out.c1 0 rfl
  gi_wp2_with fail
  refine ⟨trivial, nodepth, ?_⟩
  refine (callsIn_wide.2 (HL1.out.ar 4 rfl (fun fp hI => Alloc_any _ g fp _ (m : Int) hI))).mono ?_
  rintro e w2 ⟨rfl, h2⟩
  rw [alloc_store z m hm2 HZL.out] at h2 ⊢
  have HL2 := Lib.hid h2
  simp only [List.set_cons_succ, List.set_cons_zero] at HL2
  clear h2 HL1 l0 zl
  gi_wp2_with fail
  gi_loopw [11] (fun i wr => ∃ k : Nat, k ≤ times ∧ i = .int .i64 (k : Int) ∧ Hid (Led [] w wr (logsR b3 b5 b6 bx g (some ⟨ba, oa, none⟩) m c1 c z (k * m)))) (fun i _ => times - (intOf i).toNat)
  case atStart => exact ⟨0, Nat.zero_le _, rfl, by rw [Nat.zero_mul]; exact HL2⟩
  case round =>
    obtain ⟨k, hk, rfl, HK⟩ := hrel
    by_cases hlt : k < times
    · have hlt' : (k : Int) < (times : Int) := by omega
      gi_wp2_with fail
      gi_loopw [12] (fun i wr => ∃ j : Nat, j ≤ m ∧ i = .int .i64 (j : Int) ∧ Hid (Led [] w wr (logsR b3 b5 b6 bx g (some ⟨ba, oa, none⟩) m c1 c z (k * m + j)))) (fun i _ => m - (intOf i).toNat)
      case atStart => exact ⟨0, Nat.zero_le _, rfl, HK⟩
      case round =>
        obtain ⟨j, hj, rfl, HJ⟩ := hrel
        obtain ⟨l0, _, zl, _, _⟩ := HJ.out.c1 0 rfl
        by_cases hjt : j < m
        · have hjt' : (j : Int) < (m : Int) := by omega
          obtain ⟨v0, zv, hv⟩ := HV.out wr HJ.out.below j hjt
          have HSR := Lib.hid (store_round z m k j HZL.out hjt)
          generalize z.getD j 0 = v at v0 hv HSR
          gi_wp2_with fail
          refine ⟨trivial, nodepth, ?_⟩
          rw [show IntKind.u64.wrap ((v : Int) + (k : Int)) = (((v + k) % 18446744073709551616 : Nat) : Int) by rw [IntKind.wrap_u64]; omega]
          have hlen : (storeAr z (k * m + j)).L.length < 4611686018427387904 := by
            rw [storeAr_len]
            have h1 : k * m ≤ times * m := Nat.mul_le_mul_right _ hk
            have := HT.out
            omega
          refine (callsIn_wide.2 (HJ.out.ar 4 rfl (fun fp hI => Store_any _ g fp _ (j : Int) hI hlen _ (by unfold Wd; omega)))).mono ?_
          rintro e w4 ⟨rfl, h4⟩
          rw [HSR.out] at h4 ⊢
          have HJ4 := Lib.hid h4
          simp only [logsR, List.set_cons_succ, List.set_cons_zero] at HJ4
          clear h4 hlen HSR l0 zl v0 zv HJ
          gi_wp2_with fail
          refine ⟨trivial, nodepth, ?_⟩
          refine (callsIn_wide.2 (num01 _ _)).mono ?_
          rintro e w8 ⟨rfl, rfl⟩
          gi_wp2
          go_roundw
          case rel => exact ⟨j + 1, by omega, by go_num, HJ4⟩
          case measure => simp [intOf]; omega
        · have hjt' : ¬ (j : Int) < (m : Int) := by omega
          gi_wp2_with fail
          go_roundw
          case rel =>
            obtain rfl : m = j := by omega
            exact ⟨k + 1, by omega, by go_num, by rw [Nat.succ_mul]; exact HJ⟩
          case measure => simp [intOf]; omega
    · have hlt' : ¬ (k : Int) < (times : Int) := by omega
      obtain rfl : k = times := by omega
      clear hlt hlt' hk
      have hlen : (storeAr z (k * m)).L.length < 4611686018427387904 := by
        rw [storeAr_len]
        have := HT.out
        omega
      gi_wp2_with fail
      refine ⟨trivial, nodepth, ?_⟩
      refine (callsIn_wide.2 (HK.out.arLog 4 rfl hlen)).mono ?_
      rintro e w4 ⟨bl, bf, gg, rfl, h4⟩
      have HL4 := Lib.hid h4
      simp only [logsR, List.nil_append, List.cons_append] at HL4
      clear h4 hlen HK
      have hnil := log_not_nil
      obtain ⟨l0, _, zl, _, _⟩ := HL4.out.c1 0 rfl
      have hmul : (k : Int) * (m : Int) = ((k * m : Nat) : Int) := by simp
      obtain ⟨t, ht⟩ : ∃ t, k * m = t := ⟨_, rfl⟩
      have htl := HT.out
      rw [ht] at HL4 hmul HT htl
      have HCn : Hid (∀ W fp, IsAr W g fp (storeAr z t) → Calls Try.prog 26 #[.pointer (some ⟨g, 0, none⟩)] W fun e w' => e = .returned (.int .u64 (t : Int)) ∧ W = w') := fun W fp hI => by
        have := Count_any W g fp _ hI
        rwa [storeAr_len] at this
      have hcast : IntKind.u64.wrap (t : Int) = (t : Int) := by rw [IntKind.wrap_u64]; omega
      gi_wp2_with fail
      gi_quiet ((first | (refine ⟨nodepth, ?_⟩; gi_at_call 28; exact quietIn_leftL (num01 _ _)) | (refine ⟨nodepth, ?_⟩; gi_at_call 26; exact quietIn_leftL ((HL4.out.drewN _).arq 4 rfl (fun fp hI => HCn.out _ fp hI)))))
      have HL5 := Lib.hid (HL4.out.drewN nq)
      obtain ⟨w5, hw5⟩ : ∃ w5, w4.drewN nq = w5 := ⟨_, rfl⟩
      rw [hw5] at HL5 ⊢
      clear hw5 HL4 l0 zl hnil
      obtain ⟨x0, x1, x2, x3, _, _, _, _, zx, _, _⟩ := HL5.out.c4 1 rfl
      obtain ⟨T', ha, hb⟩ := Led.frameS (l1 := [box b3 38 #[.slice (some ⟨ba, oa, none⟩) m c1], box b6 4 #[.bool false], logT bl bf gg (storeAr z t).L]) (ts := [arena g (storeAr z t), refT (.slice none 0 0) (.slice none 0 0) ⟨[], 0, []⟩]) ((refT_nil HL5.out 0 (by omega)).sel [0, 2, 5, 4, 6] rfl (by decide))
      have HA := Lib.hid (actE T' w5 g (storeAr z t) ⟨[], 0, []⟩ (.slice none 0 0) (.slice none 0 0) c HC.out ha (by rw [storeAr_len]; omega) (by simp))
      have HBk := Lib.hid hb
      clear ha hb HL5
      gi_wp2_with fail
      refine ⟨trivial, nodepth, ?_⟩
      refine (callsIn_wide.2 HA.out).mono ?_
      rintro e w6 ⟨va, g', s', rest, rfl, h6⟩
      have HL6 : Hid (Led [] w w6 [box b3 38 #[.slice (some ⟨ba, oa, none⟩) m c1], box b6 4 #[.bool false], logT bl bf gg (storeAr z t).L]) := (HBk.out _ _ h6).sub_end
      clear h6 HA HBk x0 x1 x2 x3 zx
      gi_wp2_with fail
      refine wpIn_loop_rounds 3 ?_
      rw [roundsIn_succ]
      obtain ⟨l0, _, zl, _, _⟩ := HL6.out.c1 0 rfl
      gi_wp2_with fail
      all_goals
        refine wpIn_name ?_
        intro w7 hw7
        obtain ⟨b15, hb15⟩ : ∃ b, w6.heap.size = b := ⟨_, rfl⟩
        have HL7 : Hid (Led [] w w7 (turnR b3 b6 ba oa m c1 bl bf gg b15 (storeAr z t).L [] 0)) := by
          have h := HL6.out.al1 hw7
          rw [hb15] at h
          have e : ∀ X : Int, X = ((t - 1024 : Nat) : Int) + ((0 : Nat) : Int) → Led [] w w7 [box b3 38 #[.slice (some ⟨ba, oa, none⟩) m c1], box b6 4 #[.bool false], logT bl bf gg (storeAr z t).L, box b15 3 #[.int .i64 X]] → Hid (Led [] w w7 (turnR b3 b6 ba oa m c1 bl bf gg b15 (storeAr z t).L [] 0)) := by
            rintro X rfl hh
            simp only [turnR, logF_store]
            exact hh
          exact e _ (by omega) h
        rw [hb15]
        clear hw7 hb15 HL6 l0 zl
        refine range_logL (bl := bl) (bf := bf) (gg := gg) (L := (storeAr z t).L) rfl rfl (by rw [storeAr_len]; omega) (turnR b3 b6 ba oa m c1 bl bf gg b15 (storeAr z t).L []) (fun _ _ => False) 2 (fun _ => rfl) HL7.out ?hround ?hdone (fun _ _ _ h => h.elim)
        case hround =>
          intro k W o0 hk h
          obtain ⟨hx, hk2⟩ := logL_store z t k hk
          have hF := logF_store z t
          obtain ⟨D, hD⟩ : ∃ D, w7.heap.size = D := ⟨_, rfl⟩
          rw [hx]
          rw [hD] at h ⊢
          have HK := Lib.hid h
          clear h hx hD hk
          simp only [turnR, hF] at HK ⊢
          obtain ⟨q, hq⟩ : ∃ q, t - 1024 + k = q := ⟨_, rfl⟩
          have hq1 : ((t - 1024 : Nat) : Int) + (k : Int) = (q : Int) := by omega
          have hq2 : ((t - 1024 : Nat) : Int) + ((k + 1 : Nat) : Int) = (q : Int) + 1 := by omega
          have hq3 : q < t := by omega
          rw [hq, hq1]
          rw [hq1] at HK
          have HQ2 := Lib.hid hq2
          clear hF hk2 hq hq1 hq2
          gi_wp2
          refine ⟨_, HK.out.alloc _ _, fun W2 o h2 => ?_⟩
          obtain ⟨bc, hbc⟩ : ∃ b, W.heap.size = b := ⟨_, rfl⟩
          rw [hbc] at h2 ⊢
          have HK2 := Lib.hid h2
          simp only [marks, List.nil_append, List.cons_append] at HK2
          clear hbc h2 HK
          obtain ⟨r, d, od, nw, hr, hmod, hdiv, hdq, hacc, hnw, hod0, hod1⟩ := storeAcc_parts z m q HZL.out (by omega)
          rw [hacc] at HK2
          obtain ⟨v0, zv, hv⟩ := HV.out W2 HK2.out.below r hr
          generalize z.getD r 0 = v at v0 hv hnw hod1
          have hr' : (r : Int) < (m : Int) := by omega
          have hcq : IntKind.u64.wrap (q : Int) = (q : Int) := by rw [IntKind.wrap_u64]; omega
          have hcd : IntKind.u64.wrap (d : Int) = (d : Int) := by rw [IntKind.wrap_u64]; omega
          have hneq : ∀ W : World, (binOp .neq 54 (.agg #[.int .i64 2, .int .i64 (r : Int), .int .u64 (od : Int), .int .u64 (nw : Int), .bool true]) (.agg #[.int .i64 2, .int .i64 (r : Int), .int .u64 (od : Int), .int .u64 (nw : Int), .bool true])).run Try.prog W = .ok (.bool false) W := neq_access_same ⟨2, r, od, nw, true⟩
          obtain ⟨l0, _, zl, _, _⟩ := HK2.out.c1 0 rfl
          obtain ⟨a0, fa, za, _, _⟩ := HK2.out.c1 3 rfl
          obtain ⟨x0, x1, x2, x3, x4, _, _, _, _, _, zx, _, _⟩ := HK2.out.c5 6 rfl
          have hm0 : ¬ (m : Int) = 0 := by omega
          gi_wp2_with fail
          refine quiet_round rfl (by kernel_rfl) (by kernel_rfl) (by kernel_rfl) ?_
          repeat (first | gi_big_quiet_skip | (gi_big_quiet_want; gi_big_quiet_op; go_big_quiet_on))
          refine wpQuietIn_nil ?_
          intro _ hw'
          obtain ⟨nq, hw''⟩ := hw'
          subst hw''
          rw [hmod]
          have hdrew : ∀ i j, (W2.drewN i).drewN j = W2.drewN (i + j) := fun i j => by simp [World.drewN, Nat.add_assoc]
          by_cases hd0 : d = 0
          · have hd1 : ¬ (0 : Int) < (d : Int) := by omega
            obtain rfl := hod0 hd0
            clear hod0 hod1 hd0
            gi_wp2_with fail
            refine quiet_round rfl (by kernel_rfl) (by kernel_rfl) (by kernel_rfl) ?_
            repeat (first | gi_big_quiet_skip | (gi_big_quiet_want; gi_big_quiet_op; go_big_quiet_on))
            refine wpQuietIn_nil ?_
            intro _ hw'
            obtain ⟨nq2, hw''⟩ := hw'
            subst hw''
            clear hneq x0 x1 x2 x3 x4 v0
            gi_wp2_with fail
            have hs := (HK2.out.set 3 rfl 0 (.int .i64 ((q : Int) + 1))).drewN (nq + nq2)
            simp only [List.set_cons_succ, List.set_cons_zero, List.setIfInBounds_toArray] at hs
            rw [HQ2.out]
            exact ⟨[_], hs⟩
          · have hd1 : (0 : Int) < (d : Int) := by omega
            have hod := hod1 hd0
            clear hod0 hod1 hd0
            gi_wp2_with fail
            refine quiet_round rfl (by kernel_rfl) (by kernel_rfl) (by kernel_rfl) ?_
            repeat (first | gi_big_quiet_skip | (gi_big_quiet_want; gi_big_quiet_op; go_big_quiet_on))
            refine wpQuietIn_nil ?_
            intro _ hw'
            obtain ⟨nq2, hw''⟩ := hw'
            subst hw''
            clear hneq x0 x1 x2 x3 x4 v0
            gi_wp2_with fail
            have hs := (HK2.out.set 3 rfl 0 (.int .i64 ((q : Int) + 1))).drewN (nq + nq2)
            simp only [List.set_cons_succ, List.set_cons_zero, List.setIfInBounds_toArray] at hs
            rw [HQ2.out]
            exact ⟨[_], hs⟩
        case hdone =>
          intro W h
          obtain ⟨D, hD⟩ : ∃ D, w7.heap.size = D := ⟨_, rfl⟩
          rw [hD] at h ⊢
          have he : ((logF (storeAr z t).L : Nat) : Int) + ((logL (storeAr z t).L).length : Int) = (t : Int) := by
            rw [logL, List.length_drop, logF_store, storeAr_len]
            omega
          simp only [turnR] at h
          rw [he] at h
          have HK := Lib.hid h
          simp only [marks1, List.nil_append, List.cons_append] at HK
          clear h hD he
          obtain ⟨l0, _, zl, _, _⟩ := HK.out.c1 0 rfl
          obtain ⟨a0, fa, za, _, _⟩ := HK.out.c1 3 rfl
          gi_wp2_with fail
          rw [roundsIn_succ]
          gi_wp2_with fail
          refine wpIn_name ?_
          intro w8 hw8
          obtain ⟨b16, hb16⟩ : ∃ b, W.heap.size = b := ⟨_, rfl⟩
          have HL8 : Hid (Led [] w w8 (turnR b3 b6 ba oa m c1 bl bf gg b16 (storeAr z t).L [mark D] 0)) := by
            have h := (HK.out.al1 hw8).sel (l' := [box b3 38 #[.slice (some ⟨ba, oa, none⟩) m c1], box b6 4 #[.bool false], logT bl bf gg (storeAr z t).L, box W.heap.size 3 #[.int .i64 _], mark D]) [0, 1, 2, 6, 4] rfl (by decide)
            rw [hb16] at h
            have e : ∀ X : Int, X = ((t - 1024 : Nat) : Int) + ((0 : Nat) : Int) → Led [] w w8 [box b3 38 #[.slice (some ⟨ba, oa, none⟩) m c1], box b6 4 #[.bool false], logT bl bf gg (storeAr z t).L, box b16 3 #[.int .i64 X], mark D] → Hid (Led [] w w8 (turnR b3 b6 ba oa m c1 bl bf gg b16 (storeAr z t).L [mark D] 0)) := by
              rintro X rfl hh
              simp only [turnR, logF_store]
              exact hh
            exact e _ (by omega) h
          rw [hb16]
          clear hw8 hb16 HK l0 zl a0 fa za
          refine range_logL (bl := bl) (bf := bf) (gg := gg) (L := (storeAr z t).L) rfl rfl (by rw [storeAr_len]; omega) (turnR b3 b6 ba oa m c1 bl bf gg b16 (storeAr z t).L [mark D]) (fun _ _ => False) 2 (fun _ => rfl) HL8.out ?hround ?hdone (fun _ _ _ h => h.elim)
          case hround =>
            intro k W o0 hk h
            obtain ⟨hx, hk2⟩ := logL_store z t k hk
            have hF := logF_store z t
            obtain ⟨D2, hD⟩ : ∃ D, w8.heap.size = D := ⟨_, rfl⟩
            rw [hx]
            rw [hD] at h ⊢
            have HK := Lib.hid h
            clear h hx hD hk
            simp only [turnR, hF] at HK ⊢
            obtain ⟨q, hq⟩ : ∃ q, t - 1024 + k = q := ⟨_, rfl⟩
            have hq1 : ((t - 1024 : Nat) : Int) + (k : Int) = (q : Int) := by omega
            have hq2 : ((t - 1024 : Nat) : Int) + ((k + 1 : Nat) : Int) = (q : Int) + 1 := by omega
            have hq3 : q < t := by omega
            rw [hq, hq1]
            rw [hq1] at HK
            have HQ2 := Lib.hid hq2
            clear hF hk2 hq hq1 hq2
            gi_wp2
            refine ⟨_, HK.out.alloc _ _, fun W2 o h2 => ?_⟩
            obtain ⟨bc, hbc⟩ : ∃ b, W.heap.size = b := ⟨_, rfl⟩
            rw [hbc] at h2 ⊢
            have HK2 := Lib.hid h2
            simp only [marks, List.nil_append, List.cons_append] at HK2
            clear hbc h2 HK
            obtain ⟨r, d, od, nw, hr, hmod, hdiv, hdq, hacc, hnw, hod0, hod1⟩ := storeAcc_parts z m q HZL.out (by omega)
            rw [hacc] at HK2
            obtain ⟨v0, zv, hv⟩ := HV.out W2 HK2.out.below r hr
            generalize z.getD r 0 = v at v0 hv hnw hod1
            have hr' : (r : Int) < (m : Int) := by omega
            have hcq : IntKind.u64.wrap (q : Int) = (q : Int) := by rw [IntKind.wrap_u64]; omega
            have hcd : IntKind.u64.wrap (d : Int) = (d : Int) := by rw [IntKind.wrap_u64]; omega
            have hneq : ∀ W : World, (binOp .neq 54 (.agg #[.int .i64 2, .int .i64 (r : Int), .int .u64 (od : Int), .int .u64 (nw : Int), .bool true]) (.agg #[.int .i64 2, .int .i64 (r : Int), .int .u64 (od : Int), .int .u64 (nw : Int), .bool true])).run Try.prog W = .ok (.bool false) W := neq_access_same ⟨2, r, od, nw, true⟩
            obtain ⟨l0, _, zl, _, _⟩ := HK2.out.c1 0 rfl
            obtain ⟨a0, fa, za, _, _⟩ := HK2.out.c1 3 rfl
            obtain ⟨x0, x1, x2, x3, x4, _, _, _, _, _, zx, _, _⟩ := HK2.out.c5 7 rfl
            have hm0 : ¬ (m : Int) = 0 := by omega
            gi_wp2_with fail
            refine quiet_round rfl (by kernel_rfl) (by kernel_rfl) (by kernel_rfl) ?_
            repeat (first | gi_big_quiet_skip | (gi_big_quiet_want; gi_big_quiet_op; go_big_quiet_on))
            refine wpQuietIn_nil ?_
            intro _ hw'
            obtain ⟨nq, hw''⟩ := hw'
            subst hw''
            rw [hmod]
            have hdrew : ∀ i j, (W2.drewN i).drewN j = W2.drewN (i + j) := fun i j => by simp [World.drewN, Nat.add_assoc]
            by_cases hd0 : d = 0
            · have hd1 : ¬ (0 : Int) < (d : Int) := by omega
              obtain rfl := hod0 hd0
              clear hod0 hod1 hd0
              gi_wp2_with fail
              refine quiet_round rfl (by kernel_rfl) (by kernel_rfl) (by kernel_rfl) ?_
              repeat (first | gi_big_quiet_skip | (gi_big_quiet_want; gi_big_quiet_op; go_big_quiet_on))
              refine wpQuietIn_nil ?_
              intro _ hw'
              obtain ⟨nq2, hw''⟩ := hw'
              subst hw''
              clear hneq x0 x1 x2 x3 x4 v0
              gi_wp2_with fail
              have hs := (HK2.out.set 3 rfl 0 (.int .i64 ((q : Int) + 1))).drewN (nq + nq2)
              simp only [List.set_cons_succ, List.set_cons_zero, List.setIfInBounds_toArray] at hs
              rw [HQ2.out]
              exact ⟨[_], hs⟩
            · have hd1 : (0 : Int) < (d : Int) := by omega
              have hod := hod1 hd0
              clear hod0 hod1 hd0
              gi_wp2_with fail
              refine quiet_round rfl (by kernel_rfl) (by kernel_rfl) (by kernel_rfl) ?_
              repeat (first | gi_big_quiet_skip | (gi_big_quiet_want; gi_big_quiet_op; go_big_quiet_on))
              refine wpQuietIn_nil ?_
              intro _ hw'
              obtain ⟨nq2, hw''⟩ := hw'
              subst hw''
              clear hneq x0 x1 x2 x3 x4 v0
              gi_wp2_with fail
              have hs := (HK2.out.set 3 rfl 0 (.int .i64 ((q : Int) + 1))).drewN (nq + nq2)
              simp only [List.set_cons_succ, List.set_cons_zero, List.setIfInBounds_toArray] at hs
              rw [HQ2.out]
              exact ⟨[_], hs⟩
          case hdone =>
            intro W h
            obtain ⟨D2, hD⟩ : ∃ D, w8.heap.size = D := ⟨_, rfl⟩
            rw [hD] at h ⊢
            have he : ((logF (storeAr z t).L : Nat) : Int) + ((logL (storeAr z t).L).length : Int) = (t : Int) := by
              rw [logL, List.length_drop, logF_store, storeAr_len]
              omega
            simp only [turnR] at h
            rw [he] at h
            have HK := Lib.hid h
            simp only [marks1, List.nil_append, List.cons_append] at HK
            clear h hD he
            obtain ⟨l0, _, zl, _, _⟩ := HK.out.c1 0 rfl
            obtain ⟨a0, fa, za, _, _⟩ := HK.out.c1 3 rfl
            gi_wp2_with fail
            rw [roundsIn_succ]
            gi_wp2_with fail
            refine ⟨trivial, nodepth, ?_⟩
            refine (callsIn_wide.2 (works01 _)).mono ?_
            rintro e w9 ⟨rfl, hb⟩
            have HK9 := Lib.hid (HK.out.touch (Touch.of_below hb []))
            clear hb HK l0 zl a0 fa za
            obtain ⟨q0, qf, zq, _, _⟩ := HK9.out.c1 1 rfl
            gi_wp2
            exact led_ret2 Try.results5 rfl HK9.out 1 rfl rfl 5 4 rfl rfl (by decide) (by decide) (by decide) (fun W' h => ⟨rfl, h.below⟩)

set_option maxHeartbeats 4000000 in
theorem cellLogs_out (n : Nat) (a1 : Option Addr) (m c1 : Nat) (times : Int) (c : Call01) (w : World) (hm : m ≤ 9223372036854775807) (h : m < 1 ∨ 40 < m ∨ times < 0 ∨ 0 < m ∧ 1500 / (m : Int) < times) :
    CallsIn Fence.wide n Try.prog 5 #[.slice a1 m c1, .int .i64 times, .agg #[.int .i64 c.what, .int .i64 c.at_, .int .u64 (c.x : Int), .int .u64 (c.y : Int)]] w fun e w' => e = .returned (.bool true) ∧ Below w.heap.size w w' := by
  by_cases h1 : (m : Int) < 1
  · clear h
    refine callsIn_of_wp_marks Try.func5 rfl trivial ?_ rfl
    simp only [Try.ntmps5, List.size_toArray, List.length_cons, List.length_nil, Nat.reduceAdd, Nat.reduceSub, Array.replicate_succ, Array.replicate_zero, List.push_toArray, List.append_toArray, List.nil_append, List.cons_append]
    gi_wp2_with fail
    (refine ⟨trivial, ?_⟩; gi_wp2_with fail)
    refine ⟨trivial, nodepth, ?_⟩
    refine (callsIn_wide.2 (works01 _)).mono ?_
    rintro e w9 ⟨rfl, hb⟩
    have HK9 := Lib.hid (((((Led.nil' w).alloc _ _).alloc _ _).alloc _ _).touch (Touch.of_below hb []))
    simp only [List.nil_append, List.cons_append, World.size_alloc] at HK9
    clear hb
    obtain ⟨q0, qf, zq, _, _⟩ := HK9.out.c1 2 rfl
    gi_wp2
    exact led_ret0 Try.results5 rfl HK9.out 2 rfl rfl (fun W' h => ⟨rfl, h.below⟩)
  · by_cases h2 : 40 < (m : Int)
    · clear h
      refine callsIn_of_wp_marks Try.func5 rfl trivial ?_ rfl
      simp only [Try.ntmps5, List.size_toArray, List.length_cons, List.length_nil, Nat.reduceAdd, Nat.reduceSub, Array.replicate_succ, Array.replicate_zero, List.push_toArray, List.append_toArray, List.nil_append, List.cons_append]
      gi_wp2_with fail
      (refine ⟨trivial, ?_⟩; gi_wp2_with fail)
      refine ⟨trivial, nodepth, ?_⟩
      refine (callsIn_wide.2 (works01 _)).mono ?_
      rintro e w9 ⟨rfl, hb⟩
      have HK9 := Lib.hid (((((Led.nil' w).alloc _ _).alloc _ _).alloc _ _).touch (Touch.of_below hb []))
      simp only [List.nil_append, List.cons_append, World.size_alloc] at HK9
      clear hb
      obtain ⟨q0, qf, zq, _, _⟩ := HK9.out.c1 2 rfl
      gi_wp2
      exact led_ret0 Try.results5 rfl HK9.out 2 rfl rfl (fun W' h => ⟨rfl, h.below⟩)
    · by_cases h3 : times < 0
      · clear h
        refine callsIn_of_wp_marks Try.func5 rfl trivial ?_ rfl
        simp only [Try.ntmps5, List.size_toArray, List.length_cons, List.length_nil, Nat.reduceAdd, Nat.reduceSub, Array.replicate_succ, Array.replicate_zero, List.push_toArray, List.append_toArray, List.nil_append, List.cons_append]
        gi_wp2_with fail
        (refine ⟨trivial, ?_⟩; gi_wp2_with fail)
        refine ⟨trivial, nodepth, ?_⟩
        refine (callsIn_wide.2 (works01 _)).mono ?_
        rintro e w9 ⟨rfl, hb⟩
        have HK9 := Lib.hid (((((Led.nil' w).alloc _ _).alloc _ _).alloc _ _).touch (Touch.of_below hb []))
        simp only [List.nil_append, List.cons_append, World.size_alloc] at HK9
        clear hb
        obtain ⟨q0, qf, zq, _, _⟩ := HK9.out.c1 2 rfl
        gi_wp2
        exact led_ret0 Try.results5 rfl HK9.out 2 rfl rfl (fun W' h => ⟨rfl, h.below⟩)
      · have h4 : 1500 / (m : Int) < times := by omega
        clear h
        refine callsIn_of_wp_marks Try.func5 rfl trivial ?_ rfl
        simp only [Try.ntmps5, List.size_toArray, List.length_cons, List.length_nil, Nat.reduceAdd, Nat.reduceSub, Array.replicate_succ, Array.replicate_zero, List.push_toArray, List.append_toArray, List.nil_append, List.cons_append]
        gi_wp2_with fail
        (refine ⟨trivial, ?_⟩; gi_wp2_with fail)
        refine ⟨trivial, nodepth, ?_⟩
        refine (callsIn_wide.2 (works01 _)).mono ?_
        rintro e w9 ⟨rfl, hb⟩
        have HK9 := Lib.hid (((((Led.nil' w).alloc _ _).alloc _ _).alloc _ _).touch (Touch.of_below hb []))
        simp only [List.nil_append, List.cons_append, World.size_alloc] at HK9
        clear hb
        obtain ⟨q0, qf, zq, _, _⟩ := HK9.out.c1 2 rfl
        gi_wp2
        exact led_ret0 Try.results5 rfl HK9.out 2 rfl rfl (fun W' h => ⟨rfl, h.below⟩)
set_option maxHeartbeats 4000000 in
theorem cellLogs_big (n : Nat) (a1 : Option Addr) (m c1 : Nat) (times : Int) (c : Call01) (w : World) (hm1 : 1 ≤ m) (hm2 : m ≤ 40) (ht1 : 0 ≤ times) (ht2 : times ≤ 1500 / (m : Int)) (hs : c.small = false) :
    CallsIn Fence.wide n Try.prog 5 #[.slice a1 m c1, .int .i64 times, .agg #[.int .i64 c.what, .int .i64 c.at_, .int .u64 (c.x : Int), .int .u64 (c.y : Int)]] w fun e w' => e = .returned (.bool true) ∧ Below w.heap.size w w' := by
  have HS := Lib.hid hs
  clear hs
  have hm1' : (1 : Int) ≤ (m : Int) := by omega
  have hm2' : (m : Int) ≤ 40 := by omega
  refine callsIn_of_wp_marks Try.func5 rfl trivial ?_ rfl
  simp only [Try.ntmps5, List.size_toArray, List.length_cons, List.length_nil, Nat.reduceAdd, Nat.reduceSub, Array.replicate_succ, Array.replicate_zero, List.push_toArray, List.append_toArray, List.nil_append, List.cons_append]
  gi_wp2_with fail
  refine ⟨trivial, nodepth, ?_⟩
  refine (callsIn_wide.2 (few01 _ 1 1 [c] 1 _ (by omega) (by omega) rfl ?hst)).mono ?_
  case hst => exact one_call _ _ _ _ (by simp)
  rintro e w' ⟨rfl, rfl⟩
  have hfew : fewB [c] 1 = false := by simp [fewB, HS.out]
  rw [hfew]
  clear hfew
  gi_wp2_with fail
  skip
  refine ⟨trivial, nodepth, ?_⟩
  refine (callsIn_wide.2 (works01 _)).mono ?_
  rintro e w9 ⟨rfl, hb⟩
  have HK9 := Lib.hid ((((((Led.nil' w).alloc _ _).alloc _ _).alloc _ _).alloc _ _).touch (Touch.of_below hb []))
  simp only [List.nil_append, List.cons_append, World.size_alloc] at HK9
  clear hb
  obtain ⟨q0, qf, zq, _, _⟩ := HK9.out.c1 2 rfl
  gi_wp2
  exact led_ret0 Try.results5 rfl HK9.out 2 rfl rfl (fun W' h => ⟨rfl, h.below⟩)

theorem cellLogs_any (a1 : Option Addr) (m c1 : Nat) (z : List Nat) (times : Int) (c : Call01) (w : World) (hm : m ≤ maxLen) (hzl : z.length = m) (hz : WordsAt w a1 z) (hc : c.Ok) :
    Calls Try.prog 5 #[.slice a1 m c1, .int .i64 times, .agg #[.int .i64 c.what, .int .i64 c.at_, .int .u64 (c.x : Int), .int .u64 (c.y : Int)]] w fun e w' => e = .returned (.bool true) ∧ Below w.heap.size w w' := by
  refine (callsIn_wide (n := 0)).1 ?_
  by_cases h : m < 1 ∨ 40 < m ∨ times < 0 ∨ 0 < m ∧ 1500 / (m : Int) < times
  · exact cellLogs_out 0 a1 m c1 times c w (by unfold maxLen at hm; omega) h
  · have h1 : ¬ 1500 / (m : Int) < times := fun hx => h (.inr (.inr (.inr ⟨by omega, hx⟩)))
    obtain ⟨t, rfl⟩ := Int.eq_ofNat_of_zero_le (show 0 ≤ times by omega)
    cases hs : c.small with
    | false => exact cellLogs_big 0 a1 m c1 _ c w (by omega) (by omega) (by omega) (by omega) hs
    | true =>
      have h2 : t ≤ 1500 / m := by
        have e : ((1500 / m : Nat) : Int) = (1500 : Int) / (m : Int) := Int.natCast_ediv 1500 m
        have h3 : (t : Int) ≤ 1500 / (m : Int) := by omega
        rw [← e] at h3
        omega
      exact cellLogs_in 0 a1 m c1 z t c w (by omega) (by omega) h2 hzl hz hc hs
end Go.Proofs.Ytegebecogbebaaa
