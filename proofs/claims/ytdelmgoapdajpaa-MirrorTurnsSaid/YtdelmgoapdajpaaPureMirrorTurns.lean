/- MirrorTurns: a glyph's glyph is the sign itself; a bracket's glyph is its counterpart (the pure statement over the printed Lean functions). Conditions: none. -/
import Derived.Test.YtdelmgoapdajpaaPC03x4
import Derived.Test.YtdelmgoapdajpaaHP03
namespace Go.Proofs.Ytdelmgoapdajpaa.Pure
open Go.RowKit Go.Proofs.Ytdelmgoapdajpaa.PC03 Go.Proofs.YtdelmgoapdajpaaW.PrintWords Go.Proofs.YtdelmgoapdajpaaW.PrintLast Go.Proofs.YtdelmgoapdajpaaH
set_option linter.unusedVariables false

/-- What is asked of one number. -/
def turnOk (c : Int) : Bool :=
  glyphV (glyphV c) == c && (if (pairV c).1 = 0 then (pairV c).2 == 0 else
    wrap64 ((pairV c).1 + (pairV (pairV c).2).1) == 3 && ((pairV (pairV c).2).2 == c && (glyphV c == (pairV c).2 &&
      (if (pairV c).1 = 2 then meetV (pairV c).2 c && !meetV c (pairV c).2 else meetV c (pairV c).2 && !meetV (pairV c).2 c))))
set_option maxRecDepth 100000 in
theorem turnOk_all (c : Int) : turnOk c = true := by
  by_cases h : hit c
  · exact each_hit turnOk (by decide +kernel) c h
  · unfold turnOk
    rw [glyph_out c h, glyph_out c h, pair_out c h]
    simp
theorem mturns_l0 (a0 : Int) : ∀ (n : Nat) (d : Int), d + n = 2 → -1 ≤ d → Ev (fun k => parquetrylaw03_MirrorTurns.l0 k a0 d) true
  | 0, d, h, h2 => by
    refine Ev.succ ?_
    simp only [parquetrylaw03_MirrorTurns.l0]
    exact Ev.ifn (by omega) (Ev.bindc awake_eq (Ev.now _))
  | n + 1, d, h, h2 => by
    have ih := mturns_l0 a0 n (d + 1) (by omega) (by omega)
    refine Ev.succ ?_
    simp only [parquetrylaw03_MirrorTurns.l0]
    rw [w64 (x := d + 1) (by omega) (by omega)]
    refine Ev.ifp (by omega) ?_
    generalize wrap64 (bits .and .i64 a0 2097151 + d) = c
    have ht := turnOk_all c
    unfold turnOk at ht
    simp only [Bool.and_eq_true, beq_iff_eq] at ht
    obtain ⟨t1, t2⟩ := ht
    refine Ev.bindc (glyph_eq c) (Ev.bindc (glyph_eq _) (Ev.ifp t1 (Ev.bindc (pair_eq c) ?_)))
    by_cases h0 : (pairV c).1 = 0
    · rw [if_pos h0] at t2
      exact Ev.ifp h0 (Ev.ifp (by simpa using t2) ih)
    · rw [if_neg h0] at t2
      simp only [Bool.and_eq_true, beq_iff_eq] at t2
      obtain ⟨t3, t4, t5, t6⟩ := t2
      refine Ev.ifn h0 (Ev.bindc (pair_eq _) ?_)
      by_cases h2 : (pairV c).1 = 2
      · rw [if_pos h2] at t6
        simp only [Bool.and_eq_true, Bool.not_eq_true'] at t6
        refine Ev.ifp h2 (Ev.succ ?_)
        simp only [parquetrylaw03_MirrorTurns.j1]
        rw [w64 (x := d + 1) (by omega) (by omega)]
        exact Ev.ifp t3 (Ev.ifp t4 (Ev.bindc (glyph_eq c) (Ev.ifp t5 (Ev.bindc (meet_eq _ _) (Ev.ifp t6.1 (Ev.bindc (meet_eq _ _) (Ev.ifn (by rw [t6.2]; decide) ih)))))))
      · rw [if_neg h2] at t6
        simp only [Bool.and_eq_true, Bool.not_eq_true'] at t6
        refine Ev.ifn h2 (Ev.succ ?_)
        simp only [parquetrylaw03_MirrorTurns.j1]
        rw [w64 (x := d + 1) (by omega) (by omega)]
        exact Ev.ifp t3 (Ev.ifp t4 (Ev.bindc (glyph_eq c) (Ev.ifp t5 (Ev.bindc (meet_eq _ _) (Ev.ifp t6.1 (Ev.bindc (meet_eq _ _) (Ev.ifn (by rw [t6.2]; decide) ih)))))))
theorem MirrorTurns : parquetrylaw03_MirrorTurns.Pure := by
  intro a0 w0
  refine Ev.ex ?_
  unfold parquetrylaw03_MirrorTurns.f
  exact mturns_l0 a0 3 (-1) (by omega) (by omega)
end Go.Proofs.Ytdelmgoapdajpaa.Pure
