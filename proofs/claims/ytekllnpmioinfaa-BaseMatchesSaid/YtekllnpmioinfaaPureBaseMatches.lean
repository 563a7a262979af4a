/- BaseMatches: which isolates are closed where is the document's answer, and the classes stay (the pure statement over the printed Lean functions). Conditions: those of the statement. -/
import Derived.Test.YtekllnpmioinfaaPC10x19
import Derived.Test.YtekllnpmioinfaaHQ10
namespace Go.Proofs.Ytekllnpmioinfaa.Pure
open Go.RowKit Go.Proofs.Ytekllnpmioinfaa.PC10 Go.Proofs.YtekllnpmioinfaaW.PrintWords Go.Proofs.YtekllnpmioinfaaW.PrintLast Go.Proofs.YtekllnpmioinfaaH
set_option linter.unusedVariables false

/-- What the document's loop has found among the first places. -/
def found (l : List Int) (i q : Nat) : Int := match (ope l i).head? with | some k => if k < q then (k : Int) else -1 | none => -1
theorem refMatch_l1 (l : List Int) (hl : l.length < 1000) (i : Nat) (hi : i < l.length) (h22 : at' l i = 22) (out : List Int) (ho : out.length = i)
    (hnext : Ev (fun k => parquetryref10_Match.l0 k l (out ++ [mAt l i]) ((i + 1 : Nat) : Int)) (mAll l)) : ∀ (s q : Nat), q + s = i → Ev (fun k => parquetryref10_Match.l1 k l out (i : Int) (found l i q) (q : Int)) (mAll l)
  | 0, q, hq => by
    have hf : found l i q = mAt l i := by
      unfold found mAt
      rw [if_neg (fun h => ini_ne h h22), if_pos h22]
      cases ho : (ope l i).head? with
      | none => rfl
      | some k =>
        have := ope_lt l i (by omega) k (List.mem_of_mem_head? ho)
        simp only
        rw [if_pos (by omega)]
    refine Ev.succ ?_
    simp only [parquetryref10_Match.l1]
    refine Ev.ifn (by omega) (Ev.succ ?_)
    simp only [parquetryref10_Match.j3]
    rw [hf, w64 (x := (i : Int) + 1) (by omega) (by omega), show (i : Int) + 1 = ((i + 1 : Nat) : Int) from by omega]
    exact Ev.ifn (by decide) (Ev.ifp (by omega) hnext)
  | s + 1, q, hq => by
    have ih := refMatch_l1 l hl i hi h22 out ho hnext s (q + 1) (by omega)
    have e1 : wrap64 ((q : Int) + 1) = ((q + 1 : Nat) : Int) := by rw [w64 (by omega) (by omega)]; omega
    refine Ev.succ ?_
    simp only [parquetryref10_Match.l1]
    refine Ev.ifp (by omega) (Ev.ifp (by omega) (Ev.ifp (by omega) (Ev.succ ?_)))
    simp only [parquetryref10_Match.j3]
    rw [rd_at, rd_at, e1]
    refine Ev.ifp (by rw [h22]; rfl) (Ev.ifp (by omega) (Ev.ifp (by omega) (Ev.bindc (initiator_eq _) ?_)))
    have hlast : ∀ v : Int, (match (ope l i).head? with | some k => if k < q + 1 then (k : Int) else -1 | none => -1) = v → found l i (q + 1) = v := fun v h => h
    by_cases hk : ini (at' l q) = true
    · have h1 := end_iff l i q hi (by omega) h22 hk
      refine Ev.ifp hk (Ev.bind (end_ev l (by omega) q (by omega)) ?_)
      by_cases he : endOf l q = i
      · have h2 : found l i (q + 1) = (q : Int) := hlast _ (by rw [h1.1 he]; simp)
        rw [h2] at ih
        exact Ev.ifp (by omega) ih
      · have h2 : found l i (q + 1) = found l i q := by
          unfold found
          cases ho : (ope l i).head? with
          | none => rfl
          | some k =>
            have : k ≠ q := fun e => he (h1.2 (by rw [ho, e]))
            simp only
            by_cases h3 : k < q
            · rw [if_pos h3, if_pos (by omega)]
            · rw [if_neg h3, if_neg (by omega)]
        rw [h2] at ih
        exact Ev.ifn (by omega) ih
    · have h2 : found l i (q + 1) = found l i q := by
        unfold found
        cases ho : (ope l i).head? with
        | none => rfl
        | some k =>
          have h4 := ope_ini l i (by omega) k (List.mem_of_mem_head? ho)
          have : k ≠ q := fun e => hk (e ▸ h4)
          simp only
          by_cases h3 : k < q
          · rw [if_pos h3, if_pos (by omega)]
          · rw [if_neg h3, if_neg (by omega)]
      rw [h2] at ih
      exact Ev.ifn hk ih
theorem mAll_take (l : List Int) (i : Nat) (hi : i < l.length) : (mAll l).take (i + 1) = (mAll l).take i ++ [mAt l i] := by
  have h := mAll_get l i hi
  rw [List.take_succ_eq_append_getElem (by rw [mAll_len]; exact hi)]
  rw [List.getD_eq_getElem?_getD, List.getElem?_eq_getElem (by rw [mAll_len]; exact hi)] at h
  rw [← h]
  rfl
theorem refMatch_l0 (l : List Int) (hl : l.length < 1000) : ∀ (s i : Nat), i + s = l.length → Ev (fun k => parquetryref10_Match.l0 k l ((mAll l).take i) (i : Int)) (mAll l)
  | 0, i, h => by
    refine Ev.succ ?_
    simp only [parquetryref10_Match.l0]
    exact Ev.ifn (by omega) (Ev.val (Ev.now _) (by rw [List.take_of_length_le (by rw [mAll_len]; omega)]))
  | s + 1, i, h => by
    have hi : i < l.length := by omega
    have ih := refMatch_l0 l hl s (i + 1) (by omega)
    rw [mAll_take l i hi] at ih
    have hlen : ((mAll l).take i).length = i := by rw [List.length_take, mAll_len]; omega
    have plain : at' l i ≠ 22 → ∀ v : Int, v = mAt l i → Ev (fun k => parquetryref10_Match.j1 k l ((mAll l).take i) (i : Int) v) (mAll l) := fun h22 v hv => by
      subst hv
      have hj3 : ∀ q : Int, Ev (fun k => parquetryref10_Match.j3 k l ((mAll l).take i) (i : Int) (mAt l i) q false) (mAll l) := fun q => by
        refine Ev.succ ?_
        simp only [parquetryref10_Match.j3]
        rw [w64 (x := (i : Int) + 1) (by omega) (by omega), show (i : Int) + 1 = ((i + 1 : Nat) : Int) from by omega]
        exact Ev.ifn (by decide) (Ev.ifp (by omega) ih)
      refine Ev.succ ?_
      simp only [parquetryref10_Match.j1]
      refine Ev.succ ?_
      simp only [parquetryref10_Match.l1]
      by_cases h0 : (0 : Int) < (i : Int)
      · refine Ev.ifp h0 (Ev.ifp (by omega) (Ev.ifp (by omega) ?_))
        rw [rd_at, show (at' l i == 22) = false from beq_eq_false_iff_ne.2 h22]
        exact hj3 0
      · exact Ev.ifn h0 (hj3 0)
    refine Ev.succ ?_
    simp only [parquetryref10_Match.l0]
    rw [rd_at]
    refine Ev.ifp (by omega) (Ev.ifp (by omega) (Ev.bindc (initiator_eq _) ?_))
    by_cases hk : ini (at' l i) = true
    · refine Ev.ifp hk (Ev.bind (end_ev l (by omega) i hi) (plain (ini_ne hk) _ ?_))
      unfold mAt
      rw [if_pos hk]
    · refine Ev.ifn hk ?_
      by_cases h22 : at' l i = 22
      · refine Ev.succ ?_
        simp only [parquetryref10_Match.j1]
        have := refMatch_l1 l hl i hi h22 ((mAll l).take i) hlen ih i 0 (by omega)
        rw [show found l i 0 = -1 from by unfold found; cases (ope l i).head? <;> simp] at this
        exact this
      · refine plain h22 _ ?_
        unfold mAt
        rw [if_neg hk, if_neg h22]
theorem refMatch_ev (l : List Int) (hl : l.length < 1000) : Ev (fun k => parquetryref10_Match.f k l) (mAll l) := by
  unfold parquetryref10_Match.f
  exact refMatch_l0 l hl l.length 0 (by omega)
theorem BaseMatches : parquetrylaw10_BaseMatches.Pure := by
  intro l h1 h2 h3
  refine Ev.ex ?_
  unfold parquetrylaw10_BaseMatches.f
  by_cases hl : (l.length : Int) > 120
  · exact Ev.ifp hl (Ev.bind awake_ev (Ev.now _))
  · have hml := mAll_len l
    refine Ev.ifn hl (Ev.bindc rfl (Ev.ifp (by simp; omega) (Ev.bindc rfl ?_)))
    rw [List.nil_append]
    exact Ev.bind (match_ev l (by omega)) (Ev.bind (refMatch_ev l (by omega)) (Ev.bind (same_ev _ (by omega)) (Ev.ifp rfl (Ev.ifp (by omega) (Ev.bind (same_ev l (by omega)) (Ev.ifp rfl (Ev.bind awake_ev (Ev.now _))))))))
end Go.Proofs.Ytekllnpmioinfaa.Pure
