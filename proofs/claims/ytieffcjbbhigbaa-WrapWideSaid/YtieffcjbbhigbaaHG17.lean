/- Chapter 17: small laws on lines, and on what is shown, in plain Lean. Conditions: at most 300 clusters. -/
import Derived.Test.YtieffcjbbhigbaaHF17
namespace Go.Proofs.Ytieffcjbbhigbaa.Pure
open Go.RowKit Go.Proofs.Ytieffcjbbhigbaa.PC17 Go.Proofs.YtieffcjbbhigbaaW.PrintWords Go.Proofs.YtieffcjbbhigbaaW.PrintLast Go.Proofs.YtieffcjbbhigbaaW.PrintMore Go.Proofs.YtieffcjbbhigbaaH
set_option linter.unusedVariables false

theorem rd_take (l : List CL) (n q : Nat) (hn : n ≤ l.length) (hq : q < n) : rd_T39 (l.take n) (q : Int) = rd_T39 l (q : Int) := by
  rw [rd_get l q (by omega), rd_get _ q (by rw [List.length_take]; omega), List.getElem_take]
theorem bk_take (l : List CL) (n q : Nat) (hn : n ≤ l.length) (hq : q < n) : bk (l.take n) q = bk l q := by
  unfold bk
  rw [rd_take l n q hn hq]
/-- What is behind what is shown is the break at the end. -/
theorem shown_brk (l : List CL) (q : Nat) (h1 : shownN l ≤ q) (h2 : q < l.length) : q + 1 = l.length ∧ brk (rd_T39 l (q : Int)) = true := by
  unfold shownN at h1
  split at h1
  · split at h1
    · rename_i hb
      obtain rfl : q = l.length - 1 := by omega
      exact ⟨by omega, hb⟩
    · omega
  · omega
theorem rd_ln (pre : List LN) (y : LN) (r : List LN) : rd_T29 (pre ++ y :: r) (pre.length : Int) = y := by
  unfold rd_T29
  simp
theorem fixL_last (m : Int) (y : LN) : fixL m [y] = [⟨y.f0, m, y.f2, y.f3, y.f4⟩] := rfl
theorem fixL_more (m : Int) (y z : LN) (r : List LN) : fixL m (y :: z :: r) = y :: fixL m (z :: r) := rfl
end Go.Proofs.Ytieffcjbbhigbaa.Pure
