/- ColsPlain: the numbers below 128 take one slot but the controls, which take none; what is no number of a rune takes one (the pure statement over the printed Lean functions). Conditions: none. -/
import Derived.Test.YtgbkfjdkejjmpaaPC04x5
import Derived.Test.YtgbkfjdkejjmpaaHP04
import Derived.Laws.Bits128
namespace Go.Proofs.Ytgbkfjdkejjmpaa.Pure
open Go.RowKit Go.Proofs.Ytgbkfjdkejjmpaa.PC04 Go.Proofs.YtgbkfjdkejjmpaaW.PrintWords Go.Proofs.YtgbkfjdkejjmpaaW.PrintLast Go.Proofs.YtgbkfjdkejjmpaaH
set_option linter.unusedVariables false

theorem small : ∀ c : Fin 128, colsV ((c.val : Nat) : Int) = (if c.val < 32 ∨ c.val = 127 then 0 else 1) := by decide +kernel
theorem low (c : Int) (h : c < 0) : colsV c = 1 := by
  have n0 : cols_Of.oddIn cols_Of.narrowL c = false := by
    unfold cols_Of.oddIn
    rw [count_none _ _ (fun x hx => by
      have : ∀ x ∈ cols_Of.narrowL, (0 : Int) ≤ x := by decide +kernel
      have := this x hx
      omega)]
    rfl
  have n1 : cols_Of.oddIn cols_Of.wideL c = false := by
    unfold cols_Of.oddIn
    rw [count_none _ _ (fun x hx => by
      have : ∀ x ∈ cols_Of.wideL, (0 : Int) ≤ x := by decide +kernel
      have := this x hx
      omega)]
    rfl
  unfold colsV
  rw [n0, n1]
  rfl
theorem high (c : Int) (h : 1114112 ≤ c) : colsV c = 1 := by
  have n0 : cols_Of.oddIn cols_Of.narrowL c = false := by
    unfold cols_Of.oddIn
    rw [count_all _ _ (fun x hx => by
      have : ∀ x ∈ cols_Of.narrowL, x ≤ (1114112 : Int) := by decide +kernel
      have := this x hx
      omega)]
    decide +kernel
  have n1 : cols_Of.oddIn cols_Of.wideL c = false := by
    unfold cols_Of.oddIn
    rw [count_all _ _ (fun x hx => by
      have : ∀ x ∈ cols_Of.wideL, x ≤ (1114112 : Int) := by decide +kernel
      have := this x hx
      omega)]
    decide +kernel
  unfold colsV
  rw [n0, n1]
  rfl
theorem tail {g : Nat → Option Bool} (a0 : Int) (h : g = fun k => (if a0 ≥ 0 then (if a0 < 1114112 then ((parquetrylaw04_awake.f k).bind fun t => (some t)) else ((cols_Of.f a0).bind fun t => (if t = 1 then ((parquetrylaw04_awake.f k).bind fun t => (some t)) else (some false)))) else ((cols_Of.f a0).bind fun t => (if t = 1 then ((parquetrylaw04_awake.f k).bind fun t => (some t)) else (some false))))) : Ev g true := by
  subst h
  by_cases h0 : a0 ≥ 0
  · refine Ev.ifp h0 ?_
    by_cases h1 : a0 < 1114112
    · exact Ev.ifp h1 (Ev.bind awake_ev (Ev.now _))
    · exact Ev.ifn h1 (Ev.bindc (of_eq a0) (Ev.ifp (high a0 (by omega)) (Ev.bind awake_ev (Ev.now _))))
  · exact Ev.ifn h0 (Ev.bindc (of_eq a0) (Ev.ifp (low a0 (by omega)) (Ev.bind awake_ev (Ev.now _))))
theorem plain (a0 c : Int) (h0 : 0 ≤ c) (h1 : c < 128) : Ev (fun k => if c < 32 then (parquetrylaw04_ColsPlain.j0 k a0 c 1 true) else (parquetrylaw04_ColsPlain.j0 k a0 c 1 (c == 127))) true := by
  have hs := small ⟨c.toNat, by omega⟩
  simp only [Int.toNat_of_nonneg h0] at hs
  by_cases h2 : c < 32
  · refine Ev.ifp h2 (Ev.succ ?_)
    simp only [parquetrylaw04_ColsPlain.j0]
    rw [if_pos (by omega)] at hs
    exact Ev.ifp (by trivial) (Ev.bindc (of_eq c) (Ev.ifp hs (tail a0 rfl)))
  · refine Ev.ifn h2 (Ev.succ ?_)
    simp only [parquetrylaw04_ColsPlain.j0]
    by_cases h3 : c = 127
    · rw [if_pos (by omega)] at hs
      exact Ev.ifp (by simp [h3]) (Ev.bindc (of_eq c) (Ev.ifp hs (tail a0 rfl)))
    · rw [if_neg (by omega)] at hs
      exact Ev.ifn (by simp [h3]) (Ev.bindc (of_eq c) (Ev.ifp hs (tail a0 rfl)))
theorem ColsPlain : parquetrylaw04_ColsPlain.Pure := by
  intro a0 w0
  refine Ev.ex ?_
  unfold parquetrylaw04_ColsPlain.f
  have hb : bits .and .i64 a0 127 = a0 % 128 := Go.i64_and127 a0
  rw [hb]
  exact plain a0 _ (Int.emod_nonneg _ (by decide)) (Int.emod_lt_of_pos _ (by decide))
end Go.Proofs.Ytgbkfjdkejjmpaa.Pure
