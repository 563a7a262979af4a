/- WrapLines: any clusters' lines are the document's, and the clusters stay (the pure statement over the printed Lean functions). Conditions: those of the statement. -/
import Derived.Test.YtieffcjbbhigbaaPC17x17
import Derived.Test.YtieffcjbbhigbaaHF17
import Derived.Test.YtieffcjbbhigbaaHZ17
namespace Go.Proofs.Ytieffcjbbhigbaa.Pure
open Go.RowKit Go.Proofs.Ytieffcjbbhigbaa.PC17 Go.Proofs.YtieffcjbbhigbaaW.PrintWords Go.Proofs.YtieffcjbbhigbaaW.PrintLast Go.Proofs.YtieffcjbbhigbaaH
theorem sameLn_l0 (l : List LN) (hl : l.length ≤ 1000) : ∀ (n i : Nat), i + n = l.length → Ev (fun k => parquetryref17_Same.l0 k l l (i : Int)) true := by
  intro n
  induction n with
  | zero =>
    intro i hi
    refine Ev.succ ?_
    simp only [parquetryref17_Same.l0]
    exact Ev.ifn (by omega) (Ev.now _)
  | succ n ih =>
    intro i hi
    refine Ev.succ ?_
    simp only [parquetryref17_Same.l0]
    rw [show wrap64 ((i : Int) + 1) = ((i + 1 : Nat) : Int) from by rw [w64 (by omega) (by omega)]; omega]
    exact Ev.ifp (by omega) (Ev.ifp (by omega) (Ev.ifp (by omega) (Ev.ifn (by simp) (ih (i + 1) (by omega)))))
theorem sameCl_l0 (l : List CL) (hl : l.length ≤ 1000) : ∀ (n i : Nat), i + n = l.length → Ev (fun k => parquetryref06_Same.l0 k l l (i : Int)) true := by
  intro n
  induction n with
  | zero =>
    intro i hi
    refine Ev.succ ?_
    simp only [parquetryref06_Same.l0]
    exact Ev.ifn (by omega) (Ev.now _)
  | succ n ih =>
    intro i hi
    refine Ev.succ ?_
    simp only [parquetryref06_Same.l0]
    rw [show wrap64 ((i : Int) + 1) = ((i + 1 : Nat) : Int) from by rw [w64 (by omega) (by omega)]; omega]
    exact Ev.ifp (by omega) (Ev.ifp (by omega) (Ev.ifp (by omega) (Ev.ifn (by simp) (ih (i + 1) (by omega)))))
theorem WrapLines : parquetrylaw17_WrapLines.Pure := by
  intro l a1 a2 _ _ _ hw _
  refine Ev.ex ?_
  unfold parquetrylaw17_WrapLines.f
  obtain ⟨w0, w1⟩ := wf_i64 hw
  by_cases hl : (l.length : Int) > 200
  · exact Ev.ifp hl (Ev.bind awake_ev (Ev.now _))
  · obtain ⟨ys, hy1, hy2⟩ := lines_ev l a1 a2 (by omega) w0 w1
    have hy3 := refLines_ev l a1 a2 (by omega) w0 w1 ys hy2
    have hyl : ys.length ≤ 1000 := by
      have := shown_le l
      unfold LinesOK at hy2
      split at hy2
      · rw [hy2]; simp
      · obtain ⟨zs, _, _, h, rfl⟩ := hy2
        rw [fixL_len]
        omega
    have s1 : Ev (fun k => parquetryref17_Same.f k ys ys) true := by
      unfold parquetryref17_Same.f
      exact Ev.ifp rfl (sameLn_l0 ys hyl ys.length 0 (by omega))
    have s2 : Ev (fun k => parquetryref06_Same.f k l l) true := by
      unfold parquetryref06_Same.f
      exact Ev.ifp rfl (sameCl_l0 l (by omega) l.length 0 (by omega))
    refine Ev.ifn hl (Ev.bindc rfl (Ev.ifp (by simp; omega) (Ev.bindc rfl ?_)))
    rw [List.nil_append]
    exact Ev.bind hy1 (Ev.bind hy3 (Ev.bind s1 (Ev.ifp rfl (Ev.bind s2 (Ev.ifp rfl (Ev.bind awake_ev (Ev.now _)))))))
end Go.Proofs.Ytieffcjbbhigbaa.Pure
