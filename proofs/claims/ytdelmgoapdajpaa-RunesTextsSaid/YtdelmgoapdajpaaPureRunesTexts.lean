/- RunesTexts: runes.Text of any numbers is the document's text of them; they stay (the pure statement over the printed Lean functions). Conditions: those of the statement. -/
import Derived.Test.YtdelmgoapdajpaaPC01x6
import Derived.Test.YtdelmgoapdajpaaHQ01
namespace Go.Proofs.Ytdelmgoapdajpaa.Pure
open Go.RowKit Go.Proofs.Ytdelmgoapdajpaa.PC01 Go.Proofs.YtdelmgoapdajpaaW.PrintWords Go.Proofs.YtdelmgoapdajpaaW.PrintLast Go.Proofs.YtdelmgoapdajpaaH Go.Proofs.YtdelmgoapdajpaaU
set_option linter.unusedVariables false

theorem texts_l0 (l : List Int) (hl : l.length < 1000000000) : ∀ (r pre : List Int), l = pre ++ r → Ev (fun k => parquetrylaw01_RunesTexts.l0 k l l (pre.length : Int)) true
  | [], pre, h => by
    refine Ev.succ ?_
    simp only [parquetrylaw01_RunesTexts.l0]
    exact Ev.ifn (by rw [h]; simp) (Ev.bind awake_ev (Ev.now _))
  | x :: r, pre, h => by
    have hlen : l.length = pre.length + (r.length + 1) := by rw [h]; simp
    have e : wrap64 ((pre.length : Int) + 1) = ((pre ++ [x]).length : Int) := by rw [w64 (by omega) (by omega)]; simp
    refine Ev.succ ?_
    simp only [parquetrylaw01_RunesTexts.l0]
    rw [e]
    exact Ev.ifp (by omega) (Ev.ifp (by omega) (Ev.ifp (by omega) (Ev.ifp (by simp) (texts_l0 l hl r (pre ++ [x]) (by rw [h]; simp)))))
theorem RunesTexts : parquetrylaw01_RunesTexts.Pure := by
  intro l h1 h2 h3
  refine Ev.ex ?_
  unfold parquetrylaw01_RunesTexts.f
  by_cases h : (l.length : Int) > 1000
  · exact Ev.ifp h (Ev.bind awake_ev (Ev.now _))
  · refine Ev.ifn h (Ev.bindc rfl (Ev.ifp (by simp; omega) (Ev.bindc rfl ?_)))
    rw [List.nil_append]
    exact Ev.bind (text_ev l (by omega)) (Ev.bind (refText_ev l (by omega)) (Ev.ifp rfl (texts_l0 l (by omega) l [] rfl)))
end Go.Proofs.Ytdelmgoapdajpaa.Pure
