/- ClusterOf: the clusters of any runes are the document's; the runes stay (the pure statement over the printed Lean functions). Conditions: those of the statement. -/
import Derived.Test.YtgbkfjdkejjmpaaPC06x11
import Derived.Test.YtgbkfjdkejjmpaaHF06
namespace Go.Proofs.Ytgbkfjdkejjmpaa.Pure
open Go.RowKit Go.Proofs.Ytgbkfjdkejjmpaa.PC06 Go.Proofs.YtgbkfjdkejjmpaaW.PrintWords Go.Proofs.YtgbkfjdkejjmpaaW.PrintLast Go.Proofs.YtgbkfjdkejjmpaaH
set_option linter.unusedVariables false

theorem wf_rng {x : Int} (h : (Lit.int .i64 x).wf = true) : Q05.rng x := wf_i64 h
theorem ClusterOf : parquetrylaw06_ClusterOf.Pure := by
  intro l h1 h2 h3
  refine Ev.ex ?_
  unfold parquetrylaw06_ClusterOf.f
  by_cases h : (l.length : Int) > 200
  · exact Ev.ifp h (Ev.bind awake_ev (Ev.now _))
  · have hok : ∀ r ∈ l, okR r := fun r hr => ⟨wf_rng (h3 r hr).1, wf_rng (h3 r hr).2.1, wf_rng (h3 r hr).2.2⟩
    have hcl := cls_len l
    refine Ev.ifn h (Ev.bindc rfl (Ev.ifp (by simp; omega) (Ev.bindc rfl ?_)))
    simp only [List.nil_append]
    refine Ev.bindc (of_eq l hok (by omega)) (Ev.bind (refOf_ev l (by omega)) (Ev.bind (same_ev _ (by omega)) (Ev.ifp rfl (Ev.bind (sameR_ev l (by omega)) (Ev.ifp rfl (Ev.bind (wideAll_ev _ (by omega)) (Ev.bind (refOf_ev l (by omega)) (Ev.bind (wideAll_ev _ (by omega)) (Ev.ifp rfl ?_)))))))))
    exact Ev.bind awake_ev (Ev.now _)
end Go.Proofs.Ytgbkfjdkejjmpaa.Pure
