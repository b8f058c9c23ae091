/-
  A []uint8 in a row, opened.
-/
import Derived.Test.YtihmbgdkllmkaaaMem
import Derived.Test.YtihmbgdkllmkaaaProg
import Derived.Deep.Slices
import Derived.WalkKit
import Derived.ProofKit
import Derived.OpenShut
namespace Go.Proofs.Ytihmbgdkllmkaaa
open Go.RowKit Go.ChangeShapes Go.WideShapes Go.ChangeAt
set_option maxRecDepth 100000

/-- The bytes of a slice. -/
def BytesAt (w : World) (a : Option Addr) (z : List Nat) : Prop := (∀ x ∈ z, x < 256) ∧ ∀ i (hi : i < z.length), ∃ b o, a = some ⟨b, o, none⟩ ∧ b < w.heap.size ∧ w.cell? ⟨b, o + i, none⟩ = some (.int .u8 (z[i] : Int))

theorem open_bytes {H : Type} {enc : TypeId × Value → H} {w : World} {base : Nat} {spare : Nat → Bool} {held : Bool} {r : Reach} {b0 : Nat}
    {v : Value} {d : DataW H} {p : List MemPlace} (hv : Value.okWide Try.prog w r b0 44 v) (h : DataW.Trod enc Try.prog w base spare held 44 v d p) :
    ∃ (a : Option Addr) (len cap : Nat) (z : List Nat), v = .slice a len cap ∧ len ≤ maxLen ∧ z.length = len ∧ BytesAt w a z := by
  obtain ⟨a, len, cap, rfl⟩ := okWide_slice Try.underlying44 hv
  obtain ⟨fuel, hf⟩ := h
  rcases open_ints Try.underlying44 Try.underlying5 (by kernel_rfl) hf with ⟨hcs, _⟩ | ⟨x, l, c, zs, hcs, _, hl, hm, hz, _, hcell, hwz⟩
  · simp [Value.cells] at hcs
    obtain ⟨rfl, rfl, rfl⟩ := hcs
    exact ⟨none, 0, 0, [], rfl, by simp [maxLen], rfl, by simp, fun i hi => by simp at hi⟩
  · simp [Value.cells] at hcs
    obtain ⟨rfl, rfl, rfl⟩ := hcs
    have hz' : len ≤ zs.length := by rw [hz]; split <;> omega
    have hb : ∀ n ∈ zs, 0 ≤ n ∧ n < 256 := fun n hn => by
      have := bounds_u8 (hwz n hn)
      omega
    refine ⟨_, len, cap, (zs.take len).map Int.toNat, rfl, by omega, by simp; omega, ?_, ?_⟩
    · intro z hz'
      obtain ⟨n, hn, rfl⟩ := List.mem_map.1 hz'
      have := hb n (List.mem_of_mem_take hn)
      omega
    · intro i hi
      simp only [List.length_map, List.length_take] at hi
      have hi2 : i < zs.length := by omega
      have hc := hcell i (by omega)
      obtain ⟨b, o, sp⟩ := x
      have hsp : sp = none := by
        have := hcell 0 (by omega)
        simpa [Addr.add] using World.cell?_spot this
      subst hsp
      refine ⟨b, o, rfl, World.block_lt_of_cell? w ⟨b, o, none⟩ (u := .int .u8 (zs.getD 0 0)) (by have := hcell 0 (by omega); simpa [Addr.add] using this), ?_⟩
      have e2 : zs.getD i 0 = zs[i] := by simp [List.getD, hi2]
      have hbi := hb zs[i] (List.getElem_mem hi2)
      rw [Addr.add_lit] at hc
      rw [hc, e2]
      simp only [List.getElem_map, List.getElem_take]
      rw [show ((zs[i].toNat : Nat) : Int) = zs[i] by omega]
end Go.Proofs.Ytihmbgdkllmkaaa
