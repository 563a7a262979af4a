/- LevelExplicit: the levels, and as what is told, of any classes are the document's, and the classes stay (the pure statement over the printed Lean functions). Conditions: those of the statement. -/
import Derived.Test.YtekllnpmioinfaaPC11x11
import Derived.Test.YtekllnpmioinfaaHX11
namespace Go.Proofs.Ytekllnpmioinfaa.Pure
open Go.RowKit Go.Proofs.Ytekllnpmioinfaa.PC11 Go.Proofs.YtekllnpmioinfaaW.PrintWords Go.Proofs.YtekllnpmioinfaaW.PrintLast Go.Proofs.YtekllnpmioinfaaH
set_option linter.unusedVariables false
theorem sameX_l0 (l : List Int) (hl : l.length < 1000000) : ∀ (n i : Nat), i + n = l.length → Ev (fun k => parquetryref02_Same.l0 k l l (i : Int)) true := by
  intro n
  induction n with
  | zero =>
    intro i hi
    refine Ev.succ ?_
    simp only [parquetryref02_Same.l0]
    exact Ev.ifn (by omega) (Ev.now _)
  | succ n ih =>
    intro i hi
    refine Ev.succ ?_
    simp only [parquetryref02_Same.l0]
    rw [show wrap64 ((i : Int) + 1) = ((i + 1 : Nat) : Int) from by rw [w64 (by omega) (by omega)]; omega]
    exact Ev.ifp (by omega) (Ev.ifp (by omega) (Ev.ifp (by omega) (Ev.ifp trivial (ih (i + 1) (by omega)))))
theorem sameX_ev (l : List Int) (hl : l.length < 1000000) : Ev (fun k => parquetryref02_Same.f k l l) true := by
  unfold parquetryref02_Same.f
  exact Ev.ifp rfl (sameX_l0 l hl l.length 0 (by omega))
theorem LevelExplicit : parquetrylaw11_LevelExplicit.Pure := by
  intro l a1 _ _ _ hw
  refine Ev.ex ?_
  unfold parquetrylaw11_LevelExplicit.f
  by_cases hl : (l.length : Int) > 400
  · exact Ev.ifp hl (Ev.bind awake_ev (Ev.now _))
  · have key : ∀ x y : List Int, x.length ≤ 400 → y.length ≤ 400 → Ev (fun k => level_Explicit.f k l a1) (x, y) → Ev (fun k => parquetryref11_Explicit.f k l a1) (x, y) → Ev (fun k => if (l.length : Int) > 400 then ((parquetrylaw11_awake.f k).bind fun t388 => (some t388)) else ((some (([] : List Int) : List Int)).bind fun y389 => (if y389.length + l.length < 17592186044416 then ((some (y389 ++ l : List Int)).bind fun y392 => ((level_Explicit.f k y392 a1).bind fun bt395 => ((parquetryref11_Explicit.f k l a1).bind fun bt401 => ((parquetryref02_Same.f k bt395.1 bt401.1).bind fun t407 => (if t407 = true then ((parquetryref02_Same.f k bt395.2 bt401.2).bind fun t408 => (parquetrylaw11_LevelExplicit.j0 k l y392 bt395.1 bt395.2 (!t408))) else (parquetrylaw11_LevelExplicit.j0 k l y392 bt395.1 bt395.2 true)))))) else (none)))) true := fun x y hx hy h1 h2 => by
      refine Ev.ifn hl (Ev.bindc rfl (Ev.ifp (by simp; omega) (Ev.bindc rfl ?_)))
      rw [List.nil_append]
      refine Ev.bind h1 (Ev.bind h2 (Ev.bind (sameX_ev x (by omega)) (Ev.ifp rfl (Ev.bind (sameX_ev y (by omega)) (Ev.succ ?_)))))
      simp only [parquetrylaw11_LevelExplicit.j0]
      exact Ev.ifn (by decide) (Ev.ifp (by omega) (Ev.ifp (by omega) (Ev.bind (sameX_ev l (by omega)) (Ev.ifp rfl (Ev.bind awake_ev (Ev.now _))))))
    by_cases hb : a1 = 0 ∨ a1 = 1
    · exact key _ _ (by simp; omega) (by simp; omega) (explicit_ev l (by omega) a1 hb) (refExplicit_ev l (by omega) a1 hb)
    · refine key [] [] (by simp) (by simp) ?_ (refExplicit_no l a1 hb)
      unfold level_Explicit.f
      exact Ev.ifn hb (Ev.now _)
end Go.Proofs.Ytekllnpmioinfaa.Pure
