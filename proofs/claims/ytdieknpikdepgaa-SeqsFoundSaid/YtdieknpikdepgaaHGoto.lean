/- Words for a function that jumps back to a label: what holds at every jump is told with a number that falls. Conditions: none of its own. -/
import Derived.Test.YtdieknpikdepgaaWMore
import Derived.ScopeJumps
import Derived.WalkMore
namespace Go.Proofs.YtdieknpikdepgaaH
open Go.RowKit Go.Proofs.YtdieknpikdepgaaW.PrintWords Go.Proofs.YtdieknpikdepgaaW.PrintLast Go.Proofs.YtdieknpikdepgaaW.PrintMore

theorem least_of {p : Nat → Prop} (h : ∃ n, p n) : ∃ n, p n ∧ ∀ m, p m → n ≤ m := by
  obtain ⟨n, hn⟩ := h
  induction n using Nat.strongRecOn with
  | _ n ih =>
    by_cases hs : ∃ m, m < n ∧ p m
    · obtain ⟨m, h1, h2⟩ := hs
      exact ih m h1 h2
    · exact ⟨n, hn, fun m hm => Nat.not_lt.1 (fun hlt => hs ⟨m, hlt, hm⟩)⟩
open Classical in
theorem scope_ghost {P : Program} {a : Act} {w : World} {Q : Exit → Act → World → Prop} {c rest : Code} (l : Nat) (J : Nat → Act → World → Prop) (hf : findLabel c l = some rest)
    (first : c.wp P (Exit.jump l (fun a w => ∃ n, J n a w) Q) a w)
    (pass : ∀ n a w, J n a w → rest.wp P (Exit.jump l (fun a' w' => ∃ m, m < n ∧ J m a' w') Q) a w) : (Code.scope c).wp P Q a w := by
  refine wp_scope_jumps l (fun a w => ∃ n, J n a w) (fun a w => if h : ∃ n, J n a w then Classical.choose (least_of h) else 0) hf first (fun a w h => ?_)
  have hs := Classical.choose_spec (least_of h)
  have hp := pass _ a w hs.1
  refine Code.wp_mono (fun e a' w' he => ?_) hp
  cases e <;> try exact he
  obtain ⟨h1, m, h2, h3⟩ := he
  refine ⟨h1, ⟨m, h3⟩, ?_⟩
  have h4 := Classical.choose_spec (least_of (p := fun n => J n a' w') ⟨m, h3⟩)
  simp only [dif_pos (show ∃ n, J n a' w' from ⟨m, h3⟩), dif_pos h]
  exact Nat.lt_of_le_of_lt (h4.2 m h3) h2
/-- The same; what is shown of a pass may be used where the label is first come to. -/
theorem scope_from {P : Program} {a : Act} {w : World} {Q : Exit → Act → World → Prop} {c rest : Code} (l : Nat) (J : Nat → Act → World → Prop) (hf : findLabel c l = some (Code.skip.seq rest))
    (pass : ∀ n a w, J n a w → rest.wp P (Exit.jump l (fun a' w' => ∃ m, m < n ∧ J m a' w') Q) a w)
    (first : (∀ n a w, J n a w → rest.wp P (Exit.jump l (fun a w => ∃ n, J n a w) Q) a w) → c.wp P (Exit.jump l (fun a w => ∃ n, J n a w) Q) a w) : (Code.scope c).wp P Q a w :=
  scope_ghost l J hf (first (fun n a w h => Code.wp_mono (fun e a' w' he => by
    cases e <;> try exact he
    obtain ⟨h1, m, _, h3⟩ := he
    exact ⟨h1, m, h3⟩) (pass n a w h))) (fun n a w h => wp_seq (wp_skip (pass n a w h)))
end Go.Proofs.YtdieknpikdepgaaH
