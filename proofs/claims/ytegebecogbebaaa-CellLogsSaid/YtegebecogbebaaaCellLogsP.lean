/-
  The plain law of CellLogs: an arena after t stores, round by round over the words l.
-/
import Derived.Test.YtegebecogbebaaaCell
import Derived.Test.YtegebecogbebaaaLog
namespace Go.Proofs.Ytegebecogbebaaa

/-- Store number j. -/
def storeAcc (l : List Nat) (j : Nat) : Acc :=
  ⟨2, j % l.length, if j / l.length = 0 then 0 else (l.getD (j % l.length) 0 + (j / l.length - 1)) % 18446744073709551616, (l.getD (j % l.length) 0 + j / l.length) % 18446744073709551616, true⟩
/-- What word k is after t stores. -/
def storeWord (l : List Nat) (t k : Nat) : Nat := if t ≤ k then 0 else (l.getD k 0 + (t - 1 - k) / l.length) % 18446744073709551616
/-- The arena after t stores. -/
def storeAr (l : List Nat) (t : Nat) : Ar := ⟨(List.range l.length).map (storeWord l t), 1000, (List.range t).map (storeAcc l)⟩

theorem storeAr_len (l : List Nat) (t : Nat) : (storeAr l t).L.length = t := by simp [storeAr]
theorem storeAr_most (l : List Nat) (t : Nat) : (storeAr l t).most = 1000 := rfl
theorem storeAr_get (l : List Nat) (t j : Nat) (h : j < (storeAr l t).L.length) : (storeAr l t).L[j] = storeAcc l j := by simp [storeAr]

theorem div_pred (t m : Nat) (hm : 0 < m) (h : m ≤ t) : (t - 1 - t % m) / m = t / m - 1 := by
  have h1 := Nat.div_add_mod t m
  have h2 := Nat.mod_lt t hm
  have h3 : 0 < t / m := Nat.div_pos h hm
  obtain ⟨q, hq⟩ : ∃ q, t / m = q + 1 := ⟨t / m - 1, by omega⟩
  rw [hq] at h1 ⊢
  rw [Nat.mul_add] at h1
  have : t - 1 - t % m = (m - 1) + m * q := by omega
  rw [this, Nat.add_mul_div_left _ _ hm, Nat.div_eq_of_lt (by omega)]
  omega
theorem div_same (t k m : Nat) (hk : k < m) (hne : k ≠ t % m) (h : k < t) : (t - k) / m = (t - 1 - k) / m := by
  have hm : 0 < m := by omega
  have h1 := Nat.div_add_mod (t - k) m
  have h2 := Nat.mod_lt (t - k) hm
  have h3 : (t - k) % m ≠ 0 := by
    intro h0
    apply hne
    have hd : t = k + m * ((t - k) / m) := by omega
    rw [hd, Nat.add_mul_mod_self_left, Nat.mod_eq_of_lt hk]
  have : t - 1 - k = ((t - k) % m - 1) + m * ((t - k) / m) := by omega
  rw [this, Nat.add_mul_div_left _ _ hm, Nat.div_eq_of_lt (a := (t - k) % m - 1) (by omega)]
  omega

theorem storeWord_old (l : List Nat) (t : Nat) (hm : 0 < l.length) : storeWord l t (t % l.length) = (storeAcc l t).old := by
  unfold storeWord storeAcc
  by_cases h : t < l.length
  · rw [Nat.mod_eq_of_lt h, if_pos (Nat.le_refl _)]
    simp [Nat.div_eq_of_lt h]
  · have h1 := Nat.mod_lt t hm
    have h3 : 0 < t / l.length := Nat.div_pos (by omega) hm
    rw [if_neg (by omega), div_pred t _ hm (by omega)]
    simp only
    rw [if_neg (by omega)]
theorem storeWord_next (l : List Nat) (t k : Nat) (hk : k < l.length) : storeWord l (t + 1) k = if k = t % l.length then (storeAcc l t).new else storeWord l t k := by
  have hm : 0 < l.length := by omega
  by_cases h : k = t % l.length
  · rw [if_pos h]
    unfold storeWord storeAcc
    have h1 := Nat.div_add_mod t l.length
    have h2 := Nat.mod_le t l.length
    rw [if_neg (by omega)]
    simp only
    rw [← h]
    have h3 : t + 1 - 1 - k = l.length * (t / l.length) := by omega
    rw [h3, Nat.mul_div_cancel_left _ hm]
  · rw [if_neg h]
    unfold storeWord
    by_cases h2 : t ≤ k
    · by_cases h3 : t = k
      · exact absurd (by rw [h3, Nat.mod_eq_of_lt hk]) h
      · rw [if_pos (by omega), if_pos h2]
    · rw [if_neg (by omega), if_neg h2, Nat.add_sub_cancel, div_same t k _ hk h (by omega)]

theorem storeAr_step (l : List Nat) (t : Nat) (hm : 0 < l.length) :
    (storeAr l t).store ((t % l.length : Nat) : Int) ((l.getD (t % l.length) 0 + t / l.length) % 18446744073709551616) = (storeAr l (t + 1), storeAcc l t, 0) := by
  have h1 := Nat.mod_lt t hm
  have hlen : (storeAr l t).C.length = l.length := by simp [storeAr]
  have hold : (storeAr l t).C.getD (t % l.length) 0 = (storeAcc l t).old := by
    rw [← storeWord_old l t hm]
    simp [storeAr, List.getD, List.getElem?_map, List.getElem?_range h1]
  unfold Ar.store Ar.doBy
  rw [if_pos (by rw [hlen]; omega)]
  simp only [Int.toNat_natCast, chgStore, if_true, hold]
  refine Prod.ext ?_ (Prod.ext rfl rfl)
  simp only [Ar.acc, hold]
  unfold storeAr
  simp only [Ar.mk.injEq, true_and]
  refine ⟨?_, ?_⟩
  · apply List.ext_getElem
    · simp
    · intro k hk1 hk2
      simp only [List.length_set, List.length_map, List.length_range] at hk1
      rw [List.getElem_set]
      simp only [List.getElem_map, List.getElem_range]
      rw [storeWord_next l t k hk1]
      by_cases hkk : t % l.length = k
      · rw [if_pos hkk, if_pos hkk.symm]; rfl
      · rw [if_neg hkk, if_neg (Ne.symm hkk)]
  · rw [List.range_succ, List.map_append]; rfl
end Go.Proofs.Ytegebecogbebaaa
