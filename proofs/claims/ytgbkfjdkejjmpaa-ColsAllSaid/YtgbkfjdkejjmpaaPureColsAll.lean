/- ColsAll: each of a text's numbers takes the slots that the document tells, and all together their sum (the pure statement over the printed Lean functions). Conditions: those of the statement. -/
import Derived.Test.YtgbkfjdkejjmpaaPC04x3
import Derived.Test.YtgbkfjdkejjmpaaHP04
namespace Go.Proofs.Ytgbkfjdkejjmpaa.Pure
open Go.RowKit Go.Proofs.Ytgbkfjdkejjmpaa.PC04 Go.Proofs.YtgbkfjdkejjmpaaW.PrintWords Go.Proofs.YtgbkfjdkejjmpaaW.PrintLast Go.Proofs.YtgbkfjdkejjmpaaH
set_option linter.unusedVariables false

theorem colsall_l0 (l : List Int) (hl : l.length ≤ 300) : ∀ (r pre : List Int), l = pre ++ r → Ev (fun k => parquetrylaw04_ColsAll.l0 k l l (l.map colsV) (pre.length : Int)) true
  | [], pre, h => by
    refine Ev.succ ?_
    simp only [parquetrylaw04_ColsAll.l0]
    refine Ev.ifn (by rw [List.length_map, h]; simp) (Ev.ifp (by rw [List.length_map]; omega) ?_)
    exact Ev.bind (sum_ev l (by omega)) (Ev.bind (refSum_ev l (by omega)) (Ev.ifp (by simp) (Ev.bind awake_ev (Ev.now _))))
  | x :: r, pre, h => by
    have hlen : l.length = pre.length + (r.length + 1) := by rw [h]; simp
    have hrd : rd l (pre.length : Int) = x := by rw [h]; exact rd_mid pre x r
    have hrm : rd (l.map colsV) (pre.length : Int) = colsV x := by
      have := rd_mid (pre.map colsV) (colsV x) (r.map colsV)
      rw [List.length_map] at this
      rw [h, List.map_append]
      exact this
    have e : wrap64 ((pre.length : Int) + 1) = ((pre ++ [x]).length : Int) := by rw [w64 (by omega) (by omega)]; simp
    have ih := colsall_l0 l hl r (pre ++ [x]) (by rw [h]; simp)
    refine Ev.succ ?_
    simp only [parquetrylaw04_ColsAll.l0]
    rw [hrm, hrd, e]
    exact Ev.ifp (by rw [List.length_map]; omega) (Ev.ifp (by omega) (Ev.ifp (by omega) (Ev.bind (refOf_ev x) (Ev.ifp (by simp) (Ev.ifp (by omega) (Ev.ifp (by simp) ih))))))
theorem ColsAll : parquetrylaw04_ColsAll.Pure := by
  intro l h1 h2 h3
  refine Ev.ex ?_
  unfold parquetrylaw04_ColsAll.f
  by_cases hl : (l.length : Int) > 300
  · exact Ev.ifp hl (Ev.bind awake_ev (Ev.now _))
  · refine Ev.ifn hl (Ev.bindc rfl (Ev.ifp (by simp; omega) (Ev.bindc rfl ?_)))
    rw [List.nil_append]
    refine Ev.bind (all_ev l (by omega)) (Ev.ifp (by simp) (Ev.bind (sum_ev l (by omega)) (Ev.bind (refSum_ev l (by omega)) ?_)))
    refine Ev.succ ?_
    simp only [parquetrylaw04_ColsAll.j0]
    exact Ev.ifn (by simp) (colsall_l0 l (by omega) l [] rfl)
end Go.Proofs.Ytgbkfjdkejjmpaa.Pure
