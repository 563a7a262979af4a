/- MirrorGlyphs: the glyph of each number, and of its neighbours, is the document's (the pure statement over the printed Lean functions). Conditions: none. -/
import Derived.Test.YtdelmgoapdajpaaPC03x4
import Derived.Test.YtdelmgoapdajpaaHP03
namespace Go.Proofs.Ytdelmgoapdajpaa.Pure
open Go.RowKit Go.Proofs.Ytdelmgoapdajpaa.PC03 Go.Proofs.YtdelmgoapdajpaaW.PrintWords Go.Proofs.YtdelmgoapdajpaaW.PrintLast Go.Proofs.YtdelmgoapdajpaaH
set_option linter.unusedVariables false

theorem mglyphs_l0 (a0 : Int) : ∀ (n : Nat) (d : Int), d + n = 3 → -2 ≤ d → Ev (fun k => parquetrylaw03_MirrorGlyphs.l0 k a0 d) true
  | 0, d, h, h2 => by
    refine Ev.succ ?_
    simp only [parquetrylaw03_MirrorGlyphs.l0]
    exact Ev.ifn (by omega) (Ev.bindc (glyph_eq a0) (Ev.bind (refGlyph_ev a0) (Ev.ifp rfl (Ev.bindc awake_eq (Ev.now _)))))
  | n + 1, d, h, h2 => by
    have ih := mglyphs_l0 a0 n (d + 1) (by omega) (by omega)
    refine Ev.succ ?_
    simp only [parquetrylaw03_MirrorGlyphs.l0]
    refine Ev.ifp (by omega) (Ev.bindc (glyph_eq _) (Ev.bind (refGlyph_ev _) (Ev.ifp rfl ?_)))
    rw [w64 (x := d + 1) (by omega) (by omega)]
    exact ih
theorem MirrorGlyphs : parquetrylaw03_MirrorGlyphs.Pure := by
  intro a0 w0
  refine Ev.ex ?_
  unfold parquetrylaw03_MirrorGlyphs.f
  exact mglyphs_l0 a0 5 (-2) (by omega) (by omega)
end Go.Proofs.Ytdelmgoapdajpaa.Pure
