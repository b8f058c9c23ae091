/-
  A region that draws its order and holds loads beside calls, inside a round of a range over a function: what the plain walk of all orders ('wpAnyH') proves serves the round.
-/
import Derived.Test.YtihmbgdkllmkaaaQuietRound
import Derived.Test.YtihmbgdkllmkaaaQ1b
import Derived.Deep.RegionHeld3
namespace Go.Proofs.Ytihmbgdkllmkaaa

section
variable {n : Nat} {P : Program} {ops : Array Oper} {Q : Exit → Act → World → Prop} {l : Nat} {S : World → Prop}
theorem wpOpIn_of_wpOp (hno : ¬ LetsOut Q) {i : Nat} {K : Act → World → Prop} {a : Act} {w : World} (h : wpOp P ops Q i K a w) : wpOpIn Fence.wide n P ops Q i K a w := by
  unfold wpOp at h
  unfold wpOpIn
  cases ho : ops[i]? with
  | none => rw [ho] at h; exact h
  | some o =>
    rw [ho] at h
    simp only at h ⊢
    split
    · rename_i hw
      rw [if_pos hw] at h
      rcases h with h | ⟨_, h⟩
      · unfold Oper.wp at h
        unfold Oper.wpIn
        refine ⟨fun _ _ => trivial, ?_⟩
        rw [show Fence.wide.round = none from rfl, Oper.semAt_none]
        generalize (execOp a.eval o).run P w = r at *
        cases r with
        | ok x w' =>
          cases x with
          | enter f args => exact ⟨fun h => by simp [Fence.wide] at h, callsIn_wide.2 h⟩
          | row row args => exact ⟨fun h => by simp [Fence.wide] at h, fun c cs _ => let ⟨v, w2, r, s⟩ := h c cs; ⟨v, w2, r, stepsIn_wide.2 s⟩⟩
          | round _ _ _ _ _ => exact False.elim h
          | _ => exact h
        | halt x w' => cases x <;> exact h
      · exact absurd h hno
    · rename_i hw
      rw [if_neg hw] at h
      exact ⟨fun _ _ => trivial, h⟩
theorem wpAnyIn_of_wpAny {md : Region.Mode} (hno : ¬ LetsOut Q) : ∀ (fuel : Nat) (listed : Array Bool) (a : Act) (w : World), wpAny P md ops Q fuel listed a w → wpAnyIn Fence.wide n P md ops Q fuel listed a w
  | 0, _, _, _, h => h
  | fuel + 1, _, _, _, h => ⟨h.1, fun i hi => wpOpIn_mono (fun a w h => wpAnyIn_of_wpAny hno fuel _ a w h) (wpOpIn_of_wpOp hno (h.2 i hi))⟩
/-- The beginning of such a walk. -/
theorem region_held_round {id : Nat} {a : Act} {w : World} (hno : ¬ LetsOut Q) (hd : noDefer ops = true) (hm : P.follows .mixedOrders = true) (hS : S w.drew)
    (h : S w.drew → wpAnyH P .any ops Q S ops.size (Array.replicate ops.size false) a w.drew) : (Code.region id ops true).wpIn (Fence.wide.inRound l) n P Q a w :=
  wpIn_region_any hm (wpAnyIn_round rfl hd _ _ _ _ (wpAnyIn_of_wpAny hno _ _ _ _ (wpAny_of_held _ _ _ _ (h hS))))
end
end Go.Proofs.Ytihmbgdkllmkaaa
