/- WrapAll: lines follow one another without a gap, just the last one is Hard, what is not shown are blanks or the break at the end (the pure statement over the printed Lean functions). Conditions: those of the statement. -/
import Derived.Test.YtieffcjbbhigbaaPC17x18
import Derived.Test.YtieffcjbbhigbaaHG17
import Derived.Test.YtieffcjbbhigbaaHZ17
namespace Go.Proofs.Ytieffcjbbhigbaa.Pure
open Go.RowKit Go.Proofs.Ytieffcjbbhigbaa.PC17 Go.Proofs.YtieffcjbbhigbaaW.PrintWords Go.Proofs.YtieffcjbbhigbaaW.PrintLast Go.Proofs.YtieffcjbbhigbaaH
set_option linter.unusedVariables false
def GoodAt (l : List CL) (q : Nat) : Prop := bk l q = true ∨ (q + 1 = l.length ∧ brk (rd_T39 l (q : Int)) = true)
theorem all_l1 (l : List CL) (hl : l.length ≤ 200) (x : List LN) (hx : x.length ≤ 1000) (i tt : Nat) (hi : i < x.length) (ht : tt ≤ l.length) (f0 f2 f3 f4 : Int) (next : Ev (fun k => parquetrylaw17_WrapAll.l0 k l x (tt : Int) ((i + 1 : Nat) : Int)) true) :
    ∀ n q, q + n = tt → (∀ p, q ≤ p → p < tt → GoodAt l p) → Ev (fun k => parquetrylaw17_WrapAll.l1 k l x (i : Int) (q : Int) f0 (tt : Int) f2 f3 f4) true := by
  intro n
  induction n with
  | zero =>
    intro q hq _
    refine Ev.succ ?_
    simp only [parquetrylaw17_WrapAll.l1]
    rw [show wrap64 ((i : Int) + 1) = ((i + 1 : Nat) : Int) from by rw [w64 (by omega) (by omega)]; omega]
    exact Ev.ifn (by omega) next
  | succ n ih =>
    intro q hq hg
    have hi1 := ih (q + 1) (by omega) (fun p h1 h2 => hg p (by omega) h2)
    refine Ev.succ ?_
    simp only [parquetrylaw17_WrapAll.l1]
    rw [show wrap64 ((q : Int) + 1) = ((q + 1 : Nat) : Int) from by rw [w64 (by omega) (by omega)]; omega]
    refine Ev.ifp (by omega) (Ev.ifp (by omega) (Ev.ifp (by omega) (Ev.bindc rfl ?_)))
    rcases hg q (Nat.le_refl _) (by omega) with h | ⟨h1, h2⟩
    · unfold bk at h
      exact Ev.ifp h hi1
    · by_cases h : ((rd_T39 l (q : Int)).f5 == 32) = true
      · exact Ev.ifp h hi1
      · unfold brk at h2
        exact Ev.ifn h (Ev.ifp (by omega) (Ev.bindc (break_eq _ _ _ _ _ _) (Ev.ifp h2 hi1)))
theorem line_ok (l : List CL) (hl : l.length ≤ 200) (x : List LN) (hx : x.length ≤ 1000) (i : Nat) (hi : i < x.length) (fr tt sh : Nat) (y : LN) (hy : rd_T29 x (i : Int) = y) (h0 : y.f0 = (fr : Int)) (h1 : y.f1 = (tt : Int)) (h2 : y.f2 = (sh : Int)) (h4 : y.f4 = 0)
    (h3 : (y.f3 == 1) = decide (i + 1 = x.length)) (b1 : fr ≤ sh) (b2 : sh ≤ tt) (b3 : tt ≤ l.length) (b4 : tt = fr → l.length = 0) (hg : ∀ q, sh ≤ q → q < tt → GoodAt l q) (next : Ev (fun k => parquetrylaw17_WrapAll.l0 k l x (tt : Int) ((i + 1 : Nat) : Int)) true) :
    Ev (fun k => parquetrylaw17_WrapAll.l0 k l x (fr : Int) (i : Int)) true := by
  have key : Ev (fun k => parquetrylaw17_WrapAll.j1 k l x (i : Int) (y.f4 != 0) y.f0 y.f1 y.f2 y.f3 y.f4) true := by
    refine Ev.succ ?_
    simp only [parquetrylaw17_WrapAll.j1]
    refine Ev.ifn (by rw [h4]; decide) ?_
    rw [h1, h2]
    exact all_l1 l hl x hx i tt hi b3 _ _ _ _ next (tt - sh) sh (by omega) hg
  have e3 : ¬ ((y.f3 == 1) != (wrap64 ((i : Int) + 1) == (x.length : Int))) = true := by
    rw [h3, show wrap64 ((i : Int) + 1) = ((i + 1 : Nat) : Int) from by rw [w64 (by omega) (by omega)]; omega]
    by_cases c : i + 1 = x.length
    · rw [decide_eq_true c, show (((i + 1 : Nat) : Int) == (x.length : Int)) = true from beq_iff_eq.2 (by omega)]
      decide
    · rw [decide_eq_false c, show (((i + 1 : Nat) : Int) == (x.length : Int)) = false from beq_eq_false_iff_ne.2 (by omega)]
      decide
  refine Ev.succ ?_
  simp only [parquetrylaw17_WrapAll.l0]
  rw [hy]
  refine Ev.ifp (by omega) (Ev.ifp (by omega) (Ev.ifp h0 (Ev.ifn (by omega) (Ev.ifn (by omega) (Ev.ifn (by omega) ?_)))))
  by_cases c : y.f1 = y.f0
  · exact Ev.ifp c (Ev.ifn (by omega) (Ev.ifn e3 key))
  · exact Ev.ifn c (Ev.ifn e3 key)
theorem all_end (l : List CL) (x : List LN) (hp : 0 < x.length) : Ev (fun k => parquetrylaw17_WrapAll.l0 k l x (l.length : Int) (x.length : Int)) true := by
  refine Ev.succ ?_
  simp only [parquetrylaw17_WrapAll.l0]
  exact Ev.ifn (by omega) (Ev.ifp trivial (Ev.ifp (by omega) (Ev.bind awake_ev (Ev.now _))))
theorem all_wrapped (l : List CL) (hl : l.length ≤ 200) (n : Nat) (hn : shownN l = n) (w : Int) (x : List LN) (hx : x.length ≤ 1000) : ∀ (r pre : List LN) (fr : Nat), x = pre ++ fixL (l.length : Int) r → LinesR (l.take n) w fr r → Ev (fun k => parquetrylaw17_WrapAll.l0 k l x (fr : Int) (pre.length : Int)) true
  | [], _, _, _, h => h.elim
  | [y], pre, fr, he, ⟨hf, p, hp, h0, h1, h2, h4, h⟩ => by
    have hs := shown_le l
    have hlen : (l.take n).length = n := by rw [List.length_take]; omega
    obtain ⟨b1, b2, b3, b4⟩ := step_bd hp hf
    have hbk := step_bk hp hf
    rcases h with ⟨e1, h3, _⟩ | ⟨_, _, h⟩
    · rw [fixL_last] at he
      have hxl : x.length = pre.length + 1 := by rw [he]; simp
      refine line_ok l hl x hx pre.length (by omega) fr l.length p.2 ⟨y.f0, (l.length : Int), y.f2, y.f3, y.f4⟩ (by rw [he]; exact rd_ln pre _ []) h0 rfl h2 h4 ?_ (by omega) (by omega) (Nat.le_refl _) (by omega) (fun q q1 q2 => ?_) ?_
      · show (y.f3 == 1) = _
        rw [h3, decide_eq_true (by omega)]
        rfl
      · by_cases c : q < n
        · have := hbk q q1 (by omega)
          rw [bk_take l n q (by omega) c] at this
          exact .inl this
        · exact .inr (shown_brk l q (by omega) q2)
      · rw [← hxl]
        exact all_end l x (by omega)
    · exact h.elim
  | y :: z :: r, pre, fr, he, ⟨hf, p, hp, h0, h1, h2, h4, h⟩ => by
    have hs := shown_le l
    have hlen : (l.take n).length = n := by rw [List.length_take]; omega
    obtain ⟨b1, b2, b3, b4⟩ := step_bd hp hf
    have hbk := step_bk hp hf
    rcases h with ⟨_, _, h⟩ | ⟨e1, h3, h⟩
    · cases h
    · rw [fixL_more] at he
      have hxl : x.length = pre.length + (r.length + 2) := by rw [he]; simp [fixL_len]
      have ih := all_wrapped l hl n hn w x hx (z :: r) (pre ++ [y]) p.1 (by rw [he]; simp) h
      refine line_ok l hl x hx pre.length (by omega) fr p.1 p.2 y (by rw [he]; exact rd_ln pre _ _) h0 h1 h2 h4 ?_ (by omega) (by omega) (by omega) (by omega) (fun q q1 q2 => ?_) ?_
      · rw [h3, decide_eq_false (by omega)]
        rfl
      · have := hbk q q1 q2
        rw [bk_take l n q (by omega) (by omega)] at this
        exact .inl this
      · rw [List.length_append] at ih
        exact ih
theorem WrapAll : parquetrylaw17_WrapAll.Pure := by
  intro l a1 a2 _ _ _ hw _
  refine Ev.ex ?_
  unfold parquetrylaw17_WrapAll.f
  obtain ⟨w0, w1⟩ := wf_i64 hw
  have hs := shown_le l
  by_cases hl : (l.length : Int) > 200
  · exact Ev.ifp hl (Ev.bind awake_ev (Ev.now _))
  · obtain ⟨ys, hy1, hy2⟩ := lines_ev l a1 a2 (by omega) w0 w1
    refine Ev.ifn hl (Ev.bind hy1 ?_)
    unfold LinesOK at hy2
    split at hy2
    · subst hy2
      refine line_ok l (by omega) _ (by simp) 0 (by simp) 0 l.length (shownN l) _ rfl rfl rfl rfl rfl rfl (Nat.zero_le _) hs (Nat.le_refl _) (by omega) (fun q q1 q2 => .inr (shown_brk l q q1 q2)) ?_
      exact all_end l [⟨0, (l.length : Int), (shownN l : Int), 1, 0⟩] (by simp)
    · obtain ⟨zs, hz1, _, hz3, rfl⟩ := hy2
      exact all_wrapped l (by omega) (shownN l) rfl _ _ (by rw [fixL_len]; omega) zs [] 0 rfl hz1
end Go.Proofs.Ytieffcjbbhigbaa.Pure
