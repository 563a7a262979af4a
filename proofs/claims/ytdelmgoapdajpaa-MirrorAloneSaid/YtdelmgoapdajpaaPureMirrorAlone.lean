/- MirrorAlone: a bracket that opens meets just its counterpart, and what has the same form (the pure statement over the printed Lean functions). Conditions: none. -/
import Derived.Test.YtdelmgoapdajpaaPC03x4
import Derived.Test.YtdelmgoapdajpaaHP03
namespace Go.Proofs.Ytdelmgoapdajpaa.Pure
open Go.RowKit Go.Proofs.Ytdelmgoapdajpaa.PC03 Go.Proofs.YtdelmgoapdajpaaW.PrintWords Go.Proofs.YtdelmgoapdajpaaW.PrintLast Go.Proofs.YtdelmgoapdajpaaH
set_option linter.unusedVariables false

theorem form_form (c : Int) : formV (formV c) = formV c := by
  unfold formV
  by_cases h1 : c = 9001
  · simp [h1]
  · by_cases h2 : c = 9002
    · simp [h2]
    · simp [h1, h2]
theorem MirrorAlone : parquetrylaw03_MirrorAlone.Pure := by
  intro a0 a1 w0 w1
  unfold parquetrylaw03_MirrorAlone.f
  simp only [pair_eq, form_eq, meet_eq, awake_eq, Option.bind_some, form_form, if_true]
  unfold meetV
  by_cases h1 : (pairV a0).1 = 1
  · by_cases h2 : (pairV a1).1 = 2
    · simp [h1, h2]
    · simp [h1, h2]
  · simp [h1]
end Go.Proofs.Ytdelmgoapdajpaa.Pure
