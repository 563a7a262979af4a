/- WrapFits: up to where clusters fit is the document's answer (the pure statement over the printed Lean functions). Conditions: those of the statement. -/
import Derived.Test.YtieffcjbbhigbaaPC17x14
import Derived.Test.YtieffcjbbhigbaaHA17
import Derived.Test.YtieffcjbbhigbaaHZ17
namespace Go.Proofs.Ytieffcjbbhigbaa.Pure
open Go.RowKit Go.Proofs.Ytieffcjbbhigbaa.PC17 Go.Proofs.YtieffcjbbhigbaaW.PrintWords Go.Proofs.YtieffcjbbhigbaaW.PrintLast Go.Proofs.YtieffcjbbhigbaaH
theorem WrapFits : parquetrylaw17_WrapFits.Pure := by
  intro l fr w _ _ _ hf hw
  refine Ev.ex ?_
  unfold parquetrylaw17_WrapFits.f
  obtain ⟨w0, w1⟩ := wf_i64 hw
  by_cases hl : (l.length : Int) > 300
  · exact Ev.ifp hl (Ev.bind awake_ev (Ev.now _))
  · exact Ev.ifn hl (Ev.bind (fits_ev l fr w (by omega) w0 w1) (Ev.bind (refFits_ev l fr w (by omega) w0 w1) (Ev.ifp rfl (Ev.bind awake_ev (Ev.now _)))))
end Go.Proofs.Ytieffcjbbhigbaa.Pure
