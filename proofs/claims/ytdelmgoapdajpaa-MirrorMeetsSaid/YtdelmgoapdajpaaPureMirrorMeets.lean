/- MirrorMeets: whether two numbers meet is what the document tells (the pure statement over the printed Lean functions). Conditions: none. -/
import Derived.Test.YtdelmgoapdajpaaPC03x3
import Derived.Test.YtdelmgoapdajpaaHP03
namespace Go.Proofs.Ytdelmgoapdajpaa.Pure
open Go.RowKit Go.Proofs.Ytdelmgoapdajpaa.PC03 Go.Proofs.YtdelmgoapdajpaaW.PrintWords Go.Proofs.YtdelmgoapdajpaaW.PrintLast Go.Proofs.YtdelmgoapdajpaaH
set_option linter.unusedVariables false

theorem refMeet_ev (a b : Int) : Ev (fun k => parquetryref03_Meet.f k a b) (meetV a b) := by
  unfold parquetryref03_Meet.f meetV
  refine Ev.bind (refPair_ev a) (Ev.bind (refPair_ev b) ?_)
  by_cases h1 : (pairV a).1 = 1
  · refine Ev.ifp h1 ?_
    by_cases h2 : (pairV b).1 = 2
    · exact Ev.ifp h2 (Ev.bindc (refForm_eq _) (Ev.bindc (refForm_eq _) (Ev.val (Ev.now _) (by simp [h1, h2]))))
    · exact Ev.ifn h2 (Ev.val (Ev.now _) (by simp [h1, h2]))
  · exact Ev.ifn h1 (Ev.val (Ev.now _) (by simp [h1]))
theorem mmeets_l0 (a0 a1 o : Int) : ∀ (n : Nat) (d : Int), d + n = 3 → -2 ≤ d → Ev (fun k => parquetrylaw03_MirrorMeets.l0 k a0 a1 o d) true
  | 0, d, h, h2 => by
    refine Ev.succ ?_
    simp only [parquetrylaw03_MirrorMeets.l0]
    exact Ev.ifn (by omega) (Ev.bindc (meet_eq a0 a1) (Ev.bind (refMeet_ev a0 a1) (Ev.ifp (by simp) (Ev.bindc awake_eq (Ev.now _)))))
  | n + 1, d, h, h2 => by
    have ih := mmeets_l0 a0 a1 o n (d + 1) (by omega) (by omega)
    refine Ev.succ ?_
    simp only [parquetrylaw03_MirrorMeets.l0]
    refine Ev.ifp (by omega) (Ev.bindc (meet_eq a0 _) (Ev.bind (refMeet_ev a0 _) (Ev.ifn (by simp) ?_)))
    rw [w64 (x := d + 1) (by omega) (by omega)]
    exact ih
theorem MirrorMeets : parquetrylaw03_MirrorMeets.Pure := by
  intro a0 a1 w0 w1
  refine Ev.ex ?_
  unfold parquetrylaw03_MirrorMeets.f
  exact Ev.bind (refPair_ev a0) (mmeets_l0 a0 a1 _ 5 (-2) (by omega) (by omega))
end Go.Proofs.Ytdelmgoapdajpaa.Pure
