/- GcbOf: of each number, and of its neighbours, the kind, and whether it is a pictograph, is the document's (the pure statement over the printed Lean functions). Conditions: none. -/
import Derived.Test.YtgbkfjdkejjmpaaPC05x3
import Derived.Test.YtgbkfjdkejjmpaaHP05
namespace Go.Proofs.Ytgbkfjdkejjmpaa.Pure
open Go.RowKit Go.Proofs.Ytgbkfjdkejjmpaa.PC05 Go.Proofs.YtgbkfjdkejjmpaaW.PrintWords Go.Proofs.YtgbkfjdkejjmpaaW.PrintLast Go.Proofs.YtgbkfjdkejjmpaaH
set_option linter.unusedVariables false

theorem of_l0 (a0 : Int) (hw : rng a0) : ∀ (n : Nat) (d : Int), d + n = 3 → -2 ≤ d → Ev (fun k => parquetrylaw05_GcbOf.l0 k a0 d) true
  | 0, d, h, h2 => by
    refine Ev.succ ?_
    simp only [parquetrylaw05_GcbOf.l0]
    exact Ev.ifn (by omega) (Ev.bindc (of_eq a0 hw) (Ev.bind (refOf_ev a0) (Ev.ifp rfl (Ev.bindc (pict_eq a0) (Ev.bind (refPict_ev a0) (Ev.ifp (by simp) (Ev.bind awake_ev (Ev.now _))))))))
  | n + 1, d, h, h2 => by
    have ih := of_l0 a0 hw n (d + 1) (by omega) (by omega)
    have hb : bits .and .i64 a0 4194303 = a0 % 4194304 := band a0 4194303 22 (by decide) (by decide)
    have hc : rng (a0 % 4194304 + d) := by unfold rng; omega
    refine Ev.succ ?_
    simp only [parquetrylaw05_GcbOf.l0]
    rw [hb, w64 (x := a0 % 4194304 + d) hc.1 hc.2, w64 (x := d + 1) (by omega) (by omega)]
    exact Ev.ifp (by omega) (Ev.bindc (of_eq _ hc) (Ev.bind (refOf_ev _) (Ev.ifp rfl (Ev.bindc (pict_eq _) (Ev.bind (refPict_ev _) (Ev.ifn (by simp) ih))))))
theorem GcbOf : parquetrylaw05_GcbOf.Pure := by
  intro a0 w0
  refine Ev.ex ?_
  unfold parquetrylaw05_GcbOf.f
  exact of_l0 a0 (wf_i64 w0) 5 (-2) (by omega) (by omega)
end Go.Proofs.Ytgbkfjdkejjmpaa.Pure
