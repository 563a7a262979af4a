/- ClusterWhole: a text's clusters follow one another without a gap, from its beginning to its end; each byte is found in its own (the pure statement over the printed Lean functions). Conditions: those of the statement. -/
import Derived.Test.YtgbkfjdkejjmpaaHJ06
namespace Go.Proofs.Ytgbkfjdkejjmpaa.Pure
open Go.RowKit Go.Proofs.Ytgbkfjdkejjmpaa.PC06 Go.Proofs.YtgbkfjdkejjmpaaW.PrintWords Go.Proofs.YtgbkfjdkejjmpaaW.PrintLast Go.Proofs.YtgbkfjdkejjmpaaH
set_option linter.unusedVariables false

theorem ClusterWhole : parquetrylaw06_ClusterWhole.Pure := by
  intro s hs
  obtain ⟨L, rfl⟩ := Q01.list_of s
  refine Ev.ex ?_
  unfold parquetrylaw06_ClusterWhole.f
  rw [show ((ByteArray.mk ⟨L⟩).size : Int) = (L.length : Int) from rfl, show (ByteArray.mk ⟨L⟩).size = L.length from rfl]
  by_cases h : (L.length : Int) > 1000
  · exact Ev.ifp h awake_ev
  · have h1 := cls_len (Q01.runesOf L)
    have h2 := Q01.runesOf_len L
    refine Ev.ifn h (Ev.bindc (csplit_eq L (by omega)) (Ev.ifp (lie_good _ L.length (text_lie L (by omega)) (by omega) (by omega)) (Ev.bind awake_ev (Ev.ifp rfl (Ev.now _)))))
end Go.Proofs.Ytgbkfjdkejjmpaa.Pure
