/- WrapKinds: breaks, blanks and the end of what is shown are the document's answers (the pure statement over the printed Lean functions). Conditions: those of the statement. -/
import Derived.Test.YtieffcjbbhigbaaPC17x12
import Derived.Test.YtieffcjbbhigbaaHC17
import Derived.Test.YtieffcjbbhigbaaHZ17
namespace Go.Proofs.Ytieffcjbbhigbaa.Pure
open Go.RowKit Go.Proofs.Ytieffcjbbhigbaa.PC17 Go.Proofs.YtieffcjbbhigbaaW.PrintWords Go.Proofs.YtieffcjbbhigbaaW.PrintLast Go.Proofs.YtieffcjbbhigbaaH
theorem kinds_l0 (l : List S39) (hl : l.length ≤ 300) : ∀ (n i : Nat), i + n = l.length → Ev (fun k => parquetrylaw17_WrapKinds.l0 k l (i : Int)) true := by
  intro n
  induction n with
  | zero =>
    intro i hi
    refine Ev.succ ?_
    simp only [parquetrylaw17_WrapKinds.l0]
    exact Ev.ifn (by omega) (Ev.bindc (shown_eq l hl) (Ev.bind (refShown_ev l hl) (Ev.ifp rfl (Ev.bind awake_ev (Ev.now _)))))
  | succ n ih =>
    intro i hi
    refine Ev.succ ?_
    simp only [parquetrylaw17_WrapKinds.l0]
    rw [show wrap64 ((i : Int) + 1) = ((i + 1 : Nat) : Int) from by rw [w64 (by omega) (by omega)]; omega]
    exact Ev.ifp (by omega) (Ev.ifp (by omega) (Ev.bindc (break_eq _ _ _ _ _ _) (Ev.bind (refBreak_ev _ _ _ _ _ _) (Ev.ifn (by simp) (Ev.bindc rfl (Ev.bindc rfl (Ev.ifn (by simp) (ih (i + 1) (by omega)))))))))
theorem WrapKinds : parquetrylaw17_WrapKinds.Pure := by
  intro l _ _ _
  refine Ev.ex ?_
  unfold parquetrylaw17_WrapKinds.f
  by_cases hl : (l.length : Int) > 300
  · exact Ev.ifp hl (Ev.bind awake_ev (Ev.now _))
  · exact Ev.ifn hl (kinds_l0 l (by omega) l.length 0 (by omega))
end Go.Proofs.Ytieffcjbbhigbaa.Pure
