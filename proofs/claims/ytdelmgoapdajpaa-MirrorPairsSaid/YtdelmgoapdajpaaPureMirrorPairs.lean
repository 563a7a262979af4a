/- MirrorPairs: about each number, and its neighbours, the counterpart and the form are the document's (the pure statement over the printed Lean functions). Conditions: none. -/
import Derived.Test.YtdelmgoapdajpaaPC03x3
import Derived.Test.YtdelmgoapdajpaaHP03
namespace Go.Proofs.Ytdelmgoapdajpaa.Pure
open Go.RowKit Go.Proofs.Ytdelmgoapdajpaa.PC03 Go.Proofs.YtdelmgoapdajpaaW.PrintWords Go.Proofs.YtdelmgoapdajpaaW.PrintLast Go.Proofs.YtdelmgoapdajpaaH
set_option linter.unusedVariables false

theorem pair_ok (c : Int) : parquetrylaw03_pair.f c (pairV c).1 (pairV c).2 = some true := by
  unfold parquetrylaw03_pair.f
  rw [pair_eq]
  simp
theorem mpairs_l0 (a0 : Int) : ∀ (n : Nat) (d : Int), d + n = 3 → -2 ≤ d → Ev (fun k => parquetrylaw03_MirrorPairs.l0 k a0 d) true
  | 0, d, h, h2 => by
    refine Ev.succ ?_
    simp only [parquetrylaw03_MirrorPairs.l0]
    exact Ev.ifn (by omega) (Ev.bind (refPair_ev a0) (Ev.bindc (pair_ok a0) (Ev.ifp rfl (Ev.bindc (form_eq a0) (Ev.bindc (refForm_eq a0) (Ev.ifp rfl (Ev.bindc awake_eq (Ev.now _))))))))
  | n + 1, d, h, h2 => by
    have ih := mpairs_l0 a0 n (d + 1) (by omega) (by omega)
    refine Ev.succ ?_
    simp only [parquetrylaw03_MirrorPairs.l0]
    refine Ev.ifp (by omega) (Ev.bind (refPair_ev _) (Ev.bindc (pair_ok _) (Ev.ifp rfl (Ev.bindc (form_eq _) (Ev.bindc (refForm_eq _) (Ev.ifp rfl ?_))))))
    rw [w64 (x := d + 1) (by omega) (by omega)]
    exact ih
theorem MirrorPairs : parquetrylaw03_MirrorPairs.Pure := by
  intro a0 w0
  refine Ev.ex ?_
  unfold parquetrylaw03_MirrorPairs.f
  exact mpairs_l0 a0 5 (-2) (by omega) (by omega)
end Go.Proofs.Ytdelmgoapdajpaa.Pure
