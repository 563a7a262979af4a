/- GcbSyllables: of 28 syllables that follow one another just one is LV, the others are LVT; what stands around all of them is neither (the pure statement over the printed Lean functions). Conditions: none. -/
import Derived.Test.YtgbkfjdkejjmpaaPC05x5
import Derived.Test.YtgbkfjdkejjmpaaHP05
namespace Go.Proofs.Ytgbkfjdkejjmpaa.Pure
open Go.RowKit Go.Proofs.Ytgbkfjdkejjmpaa.PC05 Go.Proofs.YtgbkfjdkejjmpaaW.PrintWords Go.Proofs.YtgbkfjdkejjmpaaW.PrintLast Go.Proofs.YtgbkfjdkejjmpaaH
set_option linter.unusedVariables false

theorem gk_syl (c : Int) (h1 : 44032 ≤ c) (h2 : c ≤ 55203) : gk c = if (c - 44032) % 28 = 0 then 12 else 13 := by
  unfold gk gcb_Of.val gcb_Of.kindV
  rw [if_neg (by omega), if_neg (by omega), Int.tmod_eq_emod_of_nonneg (by omega)]
theorem kd_le : ∀ (l : List gcb_Of.Row) (k0 c : Int), k0 ≤ 11 → (l.all fun r => decide (r.k ≤ 11)) = true → gcb_Of.kd l k0 c ≤ 11
  | [], k0, c, h, _ => h
  | r :: l, k0, c, h, hl => by
    simp only [List.all_cons, Bool.and_eq_true, decide_eq_true_eq] at hl
    unfold gcb_Of.kd
    split
    · exact kd_le l r.k c hl.1 hl.2
    · exact h
set_option maxRecDepth 100000 in
theorem rows_le : (gcb_Of.rowsL.all fun r => decide (r.k ≤ 11)) = true := by decide +kernel
theorem gk_out (c : Int) (h : c < 44032 ∨ c > 55203) : gk c ≤ 11 := by
  unfold gk gcb_Of.val gcb_Of.kindV
  split
  · omega
  · exact kd_le _ _ _ (by omega) rows_le
theorem syl_l0 (a0 b : Int) (hb : 44032 ≤ b) (hb2 : b ≤ 55176) : ∀ (n : Nat) (i s : Int), i + n = 28 → 0 ≤ i → s = (if (27 - (b - 44032 + 27) % 28) < i then 1 else 0) → Ev (fun k => parquetrylaw05_GcbSyllables.l0 k a0 b s i) true
  | 0, i, s, h, h0, hs => by
    have e1 : bits .and .i64 a0 255 = a0 % 256 := band a0 255 8 (by decide) (by decide)
    have g1 := gk_out (44031 - a0 % 256) (by omega)
    have g2 := gk_out (55204 + a0 % 256) (by omega)
    refine Ev.succ ?_
    simp only [parquetrylaw05_GcbSyllables.l0]
    rw [e1, w64 (x := 44031 - a0 % 256) (by omega) (by omega), w64 (x := 55204 + a0 % 256) (by omega) (by omega)]
    rw [if_pos (by omega)] at hs
    refine Ev.ifn (by omega) (Ev.bindc (of_eq _ ⟨by omega, by omega⟩) (Ev.bindc (of_eq _ ⟨by omega, by omega⟩) (Ev.ifp hs ?_)))
    exact Ev.ifn (by omega) (Ev.ifn (by omega) (Ev.ifn (by omega) (Ev.ifn (by omega) (Ev.bind awake_ev (Ev.now _)))))
  | n + 1, i, s, h, h0, hs => by
    have hk := gk_syl (b + i) (by omega) (by omega)
    refine Ev.succ ?_
    simp only [parquetrylaw05_GcbSyllables.l0]
    have hs1 : 0 ≤ s ∧ s ≤ 1 := by rw [hs]; split <;> omega
    rw [w64 (x := b + i) (by omega) (by omega), w64 (x := i + 1) (by omega) (by omega), w64 (x := s + 1) (by omega) (by omega)]
    refine Ev.ifp (by omega) (Ev.bindc (of_eq _ ⟨by omega, by omega⟩) ?_)
    by_cases hm : (b + i - 44032) % 28 = 0
    · rw [if_pos hm] at hk
      rw [if_neg (by omega)] at hs
      exact Ev.ifp hk (syl_l0 a0 b hb hb2 n (i + 1) (s + 1) (by omega) (by omega) (by rw [if_pos (by omega)]; omega))
    · rw [if_neg hm] at hk
      refine Ev.ifn (by omega) (Ev.ifp hk (syl_l0 a0 b hb hb2 n (i + 1) s (by omega) (by omega) ?_))
      rw [hs]
      by_cases h1 : 27 - (b - 44032 + 27) % 28 < i
      · rw [if_pos h1, if_pos (by omega)]
      · rw [if_neg h1, if_neg (by omega)]
theorem syl_j0 (a0 b : Int) (hb : 44032 ≤ b) (hb2 : b ≤ 55176) : Ev (fun k => parquetrylaw05_GcbSyllables.j0 k a0 b) true := by
  refine Ev.succ ?_
  simp only [parquetrylaw05_GcbSyllables.j0]
  exact syl_l0 a0 b hb hb2 28 0 0 (by omega) (by omega) (by rw [if_neg (by omega)])
theorem GcbSyllables : parquetrylaw05_GcbSyllables.Pure := by
  intro a0 w0
  refine Ev.ex ?_
  have e1 : bits .and .i64 a0 16383 = a0 % 16384 := band a0 16383 14 (by decide) (by decide)
  unfold parquetrylaw05_GcbSyllables.f
  rw [e1, w64 (x := 44032 + a0 % 16384) (by omega) (by omega), w64 (x := 44032 + a0 % 16384 + 27) (by omega) (by omega)]
  by_cases h : 44032 + a0 % 16384 + 27 > 55203
  · exact Ev.ifp h (syl_j0 a0 _ (by omega) (by omega))
  · exact Ev.ifn h (syl_j0 a0 _ (by omega) (by omega))
end Go.Proofs.Ytgbkfjdkejjmpaa.Pure
