/- ClusterSplit: the clusters of any text are the document's, and how wide they are together (the pure statement over the printed Lean functions). Conditions: those of the statement. -/
import Derived.Test.YtgbkfjdkejjmpaaPC06x15
import Derived.Test.YtgbkfjdkejjmpaaHG06
namespace Go.Proofs.Ytgbkfjdkejjmpaa.Pure
open Go.RowKit Go.Proofs.Ytgbkfjdkejjmpaa.PC06 Go.Proofs.YtgbkfjdkejjmpaaW.PrintWords Go.Proofs.YtgbkfjdkejjmpaaW.PrintLast Go.Proofs.YtgbkfjdkejjmpaaH
set_option linter.unusedVariables false

theorem split_l0 (xs : List Cl) (hl : xs.length < 1000000) (w : Int) (hw : w = sumW 0 xs) : ∀ (r pre : List Cl) (n : Int), xs = pre ++ r → sumW n r = w → Ev (fun k => parquetrylaw06_ClusterSplit.l0 k xs xs n (pre.length : Int)) true
  | [], pre, n, h, hn => by
    refine Ev.succ ?_
    simp only [parquetrylaw06_ClusterSplit.l0]
    refine Ev.ifn (by rw [h]; simp) (Ev.bind (same_ev xs (by omega)) (Ev.ifp rfl (Ev.bind (wideAll_ev xs (by omega)) (Ev.ifp ?_ (Ev.bind awake_ev (Ev.now _))))))
    rw [← hw, ← hn]
    rfl
  | x :: r, pre, n, h, hn => by
    have hlen : xs.length = pre.length + (r.length + 1) := by rw [h]; simp
    have hrd : rd_T39 xs (pre.length : Int) = x := by rw [h]; exact rd_at39 pre x r
    have e : wrap64 ((pre.length : Int) + 1) = ((pre ++ [x]).length : Int) := by rw [w64 (by omega) (by omega)]; simp
    refine Ev.succ ?_
    simp only [parquetrylaw06_ClusterSplit.l0]
    rw [e, hrd]
    exact Ev.ifp (by omega) (Ev.ifp (by omega) (split_l0 xs hl w hw r (pre ++ [x]) _ (by rw [h]; simp) hn))
theorem ClusterSplit : parquetrylaw06_ClusterSplit.Pure := by
  intro s hs
  obtain ⟨L, rfl⟩ := Q01.list_of s
  refine Ev.ex ?_
  unfold parquetrylaw06_ClusterSplit.f
  rw [show ((ByteArray.mk ⟨L⟩).size : Int) = (L.length : Int) from rfl]
  by_cases h : (L.length : Int) > 1000
  · exact Ev.ifp h (Ev.bind awake_ev (Ev.now _))
  · have h1 := cls_len (Q01.runesOf L)
    have h2 := Q01.runesOf_len L
    refine Ev.ifn h (Ev.bindc (csplit_eq L (by omega)) (Ev.bind (crefSplit_ev L (by omega)) ?_))
    exact split_l0 _ (by omega) _ rfl _ [] 0 rfl rfl
end Go.Proofs.Ytgbkfjdkejjmpaa.Pure
