/-
  A scope in which the run jumps forward to one label. No program is in sight.
-/
import Derived.ScopeJumps
import Derived.WalkMore
namespace Go.Proofs.Ytihmbgdkllmkaaa

section
variable {P : Program} {a : Act} {w : World} {Q : Exit → Act → World → Prop}
theorem wp_scope_fwd {c rest : Code} (l : Nat) (hf : findLabel c l = some rest) (h : c.wp P (Exit.jump l (fun a w => rest.wp P (Exit.noGoto Q) a w) Q) a w) : (Code.scope c).wp P Q a w :=
  wp_scope_jumps l _ (fun _ _ => 0) hf h (fun a w hJ => Code.wp_mono (fun e a w he => by cases e <;> first | exact he | exact he.elim) hJ)
theorem jump_ret {l : Nat} {J : Act → World → Prop} {a : Act} {w : World} (h : Q .ret a w) : Exit.jump l J Q .ret a w := h
theorem noGoto_ret' {a : Act} {w : World} (h : Q .ret a w) : Exit.noGoto Q .ret a w := h
end
end Go.Proofs.Ytihmbgdkllmkaaa
