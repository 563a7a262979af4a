/- LevelRemoved: whether any number is a class that is removed is the document's answer (the pure statement over the printed Lean functions). Conditions: those of the statement. -/
import Derived.Test.YtekllnpmioinfaaPC11x6
import Derived.Test.YtekllnpmioinfaaHEv
import Derived.Test.YtekllnpmioinfaaHRnd
namespace Go.Proofs.Ytekllnpmioinfaa.Pure
open Go.RowKit Go.Proofs.Ytekllnpmioinfaa.PC11 Go.Proofs.YtekllnpmioinfaaW.PrintWords Go.Proofs.YtekllnpmioinfaaW.PrintLast Go.Proofs.YtekllnpmioinfaaH
set_option linter.unusedVariables false

theorem removed_same (c : Int) : ∃ b, level_Removed.f c = some b ∧ parquetryref11_Removed.f c = some b := by
  unfold level_Removed.f parquetryref11_Removed.f
  by_cases h1 : c = 16
  · exact ⟨true, by rw [if_pos h1], by rw [if_pos h1]⟩
  rw [if_neg h1, if_neg h1]
  by_cases h2 : c = 14
  · exact ⟨true, by rw [if_pos h2], by rw [if_pos h2]⟩
  rw [if_neg h2, if_neg h2]
  by_cases h3 : c = 17
  · exact ⟨true, by rw [if_pos h3], by rw [if_pos h3]⟩
  rw [if_neg h3, if_neg h3]
  by_cases h4 : c = 15
  · exact ⟨true, by rw [if_pos h4], by rw [if_pos h4]⟩
  rw [if_neg h4, if_neg h4]
  by_cases h5 : c = 18
  · exact ⟨true, by rw [if_pos h5], by rw [if_pos h5]⟩
  rw [if_neg h5, if_neg h5]
  by_cases h6 : c = 9
  · exact ⟨true, by rw [if_pos h6], by rw [beq_iff_eq.2 h6]⟩
  · exact ⟨false, by rw [if_neg h6], by rw [beq_eq_false_iff_ne.2 h6]⟩
theorem awake_ev : Ev (fun k => parquetrylaw11_awake.f k) true := Ev.of (fun k => parquetrylaw11_awake.mono k) (k := 20) (by decide +kernel)
theorem removed_l0 (a : Int) : ∀ (n : Nat) (x : Int), x + n = 24 → -1 ≤ x → Ev (fun k => parquetrylaw11_LevelRemoved.l0 k a x) true
  | 0, x, hx, h1 => by
    obtain ⟨b, e1, e2⟩ := removed_same a
    refine Ev.succ ?_
    simp only [parquetrylaw11_LevelRemoved.l0, e1, e2, Option.bind_some]
    refine Ev.ifn (by omega) ?_
    refine Ev.ifp (by cases b <;> rfl) ?_
    exact Ev.bind awake_ev (Ev.now _)
  | n + 1, x, hx, h1 => by
    obtain ⟨b, e1, e2⟩ := removed_same x
    have ih := removed_l0 a n (x + 1) (by omega) (by omega)
    have e3 : wrap64 (x + 1) = x + 1 := w64 (by omega) (by omega)
    refine Ev.succ ?_
    simp only [parquetrylaw11_LevelRemoved.l0, e1, e2, e3, Option.bind_some]
    refine Ev.ifp (by omega) ?_
    exact Ev.ifn (by cases b <;> decide) ih
theorem LevelRemoved : parquetrylaw11_LevelRemoved.Pure := by
  intro a0 _
  exact Ev.ex (removed_l0 a0 25 (-1) (by omega) (by omega))

end Go.Proofs.Ytekllnpmioinfaa.Pure
