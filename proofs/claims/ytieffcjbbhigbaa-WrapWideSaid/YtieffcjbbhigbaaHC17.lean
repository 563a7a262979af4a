/- Chapter 17: which clusters are breaks, and the end of what is shown, in plain Lean. Conditions: at most 300 clusters. -/
import Derived.Test.YtieffcjbbhigbaaPC17x3
import Derived.Test.YtieffcjbbhigbaaHEv
namespace Go.Proofs.Ytieffcjbbhigbaa.Pure
open Go.RowKit Go.Proofs.Ytieffcjbbhigbaa.PC17 Go.Proofs.YtieffcjbbhigbaaW.PrintWords Go.Proofs.YtieffcjbbhigbaaW.PrintLast Go.Proofs.YtieffcjbbhigbaaW.PrintMore Go.Proofs.YtieffcjbbhigbaaH
set_option linter.unusedVariables false
/-- Is it a break? -/
def brk (c : S39) : Bool := class_Of.val c.f5 == 10
theorem break_eq (a b c d e f : Int) : wrap_Break.f a b c d e f = some (class_Of.val f == 10) := rfl
/-- How many are to be shown. -/
def shownN (l : List S39) : Nat := if 0 < l.length then (if brk (rd_T39 l ((l.length - 1 : Nat) : Int)) = true then l.length - 1 else l.length) else 0
theorem shown_eq (l : List S39) (hl : l.length ≤ 300) : wrap_Shown.f l = some (shownN l : Int) := by
  unfold wrap_Shown.f shownN
  by_cases h : 0 < l.length
  · have e : wrap64 ((l.length : Int) - 1) = ((l.length - 1 : Nat) : Int) := by rw [w64 (by omega) (by omega)]; omega
    rw [e, if_pos (by omega), if_pos (by omega), if_pos (by omega), break_eq]
    simp only [Option.bind_some]
    rw [if_pos h]
    unfold brk
    split <;> rfl
  · rw [if_neg (by omega), if_neg h]
    congr 1
    omega
theorem shown_le (l : List S39) : shownN l ≤ l.length := by
  unfold shownN
  split
  · split <;> omega
  · omega
end Go.Proofs.Ytieffcjbbhigbaa.Pure
