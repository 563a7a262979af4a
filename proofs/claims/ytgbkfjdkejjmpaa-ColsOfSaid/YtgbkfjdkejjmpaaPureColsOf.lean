/- ColsOf: about each number, and its neighbours, the table is the document's (the pure statement over the printed Lean functions). Conditions: none. -/
import Derived.Test.YtgbkfjdkejjmpaaPC04x2
import Derived.Test.YtgbkfjdkejjmpaaHP04
namespace Go.Proofs.Ytgbkfjdkejjmpaa.Pure
open Go.RowKit Go.Proofs.Ytgbkfjdkejjmpaa.PC04 Go.Proofs.YtgbkfjdkejjmpaaW.PrintWords Go.Proofs.YtgbkfjdkejjmpaaW.PrintLast Go.Proofs.YtgbkfjdkejjmpaaH
set_option linter.unusedVariables false

theorem of_l0 (a0 : Int) : ∀ (n : Nat) (d : Int), d + n = 3 → -2 ≤ d → Ev (fun k => parquetrylaw04_ColsOf.l0 k a0 d) true
  | 0, d, h, h2 => by
    refine Ev.succ ?_
    simp only [parquetrylaw04_ColsOf.l0]
    exact Ev.ifn (by omega) (Ev.bindc (of_eq a0) (Ev.bind (refOf_ev a0) (Ev.ifp (by simp) (Ev.bind awake_ev (Ev.now _)))))
  | n + 1, d, h, h2 => by
    have ih := of_l0 a0 n (d + 1) (by omega) (by omega)
    refine Ev.succ ?_
    simp only [parquetrylaw04_ColsOf.l0]
    refine Ev.ifp (by omega) (Ev.bindc (of_eq _) (Ev.bind (refOf_ev _) (Ev.ifp (by simp) ?_)))
    rw [w64 (x := d + 1) (by omega) (by omega)]
    exact ih
theorem ColsOf : parquetrylaw04_ColsOf.Pure := by
  intro a0 w0
  refine Ev.ex ?_
  unfold parquetrylaw04_ColsOf.f
  exact of_l0 a0 5 (-2) (by omega) (by omega)
end Go.Proofs.Ytgbkfjdkejjmpaa.Pure
