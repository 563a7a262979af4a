/- BaseEnds: where paragraphs end is the document's answer, and the runes stay (the pure statement over the printed Lean functions). Conditions: those of the statement. -/
import Derived.Test.YtekllnpmioinfaaPC10x15
import Derived.Test.YtekllnpmioinfaaHC10
namespace Go.Proofs.Ytekllnpmioinfaa.Pure
open Go.RowKit Go.Proofs.Ytekllnpmioinfaa.PC10 Go.Proofs.YtekllnpmioinfaaW.PrintWords Go.Proofs.YtekllnpmioinfaaW.PrintLast Go.Proofs.YtekllnpmioinfaaH
set_option linter.unusedVariables false

theorem sameT_l0 (l : List RN) (hl : l.length < 1000000) : ∀ (r pre : List RN), l = pre ++ r → Ev (fun k => parquetryref01_Same.l0 k l l (pre.length : Int)) true
  | [], pre, h => by
    refine Ev.succ ?_
    simp only [parquetryref01_Same.l0]
    exact Ev.ifn (by rw [h]; simp) (Ev.now _)
  | x :: r, pre, h => by
    have hlen : l.length = pre.length + (r.length + 1) := by rw [h]; simp
    refine Ev.succ ?_
    simp only [parquetryref01_Same.l0]
    rw [show wrap64 ((pre.length : Int) + 1) = ((pre ++ [x]).length : Int) from by rw [w64 (by omega) (by omega)]; simp]
    exact Ev.ifp (by omega) (Ev.ifp (by omega) (Ev.ifp (by omega) (Ev.ifn (by simp) (sameT_l0 l hl r (pre ++ [x]) (by rw [h]; simp)))))
theorem sameT_ev (l : List RN) (hl : l.length < 1000000) : Ev (fun k => parquetryref01_Same.f k l l) true := by
  unfold parquetryref01_Same.f
  exact Ev.ifp rfl (sameT_l0 l hl l [] rfl)
theorem BaseEnds : parquetrylaw10_BaseEnds.Pure := by
  intro l h1 h2 h3
  refine Ev.ex ?_
  unfold parquetrylaw10_BaseEnds.f
  by_cases hl : (l.length : Int) > 1000
  · exact Ev.ifp hl (Ev.bind awake_ev (Ev.now _))
  · have hp := parE_len (codes l) 0
    have hc : (codes l).length = l.length := by simp [codes]
    refine Ev.ifn hl (Ev.bindc rfl (Ev.ifp (by simp <;> omega) (Ev.bindc rfl ?_)))
    rw [List.nil_append]
    exact Ev.bind (par_ev l (by omega)) (Ev.bind (refPar_ev l (by omega)) (Ev.bind (same_ev _ (by omega)) (Ev.ifp rfl (Ev.bind (sameT_ev l (by omega)) (Ev.ifp rfl (Ev.bind awake_ev (Ev.now _)))))))
end Go.Proofs.Ytekllnpmioinfaa.Pure
