/- ClusterFind: in which of any clusters any byte is, is the document's (the pure statement over the printed Lean functions). Conditions: those of the statement. -/
import Derived.Test.YtgbkfjdkejjmpaaPC06x17
import Derived.Test.YtgbkfjdkejjmpaaHZ06
namespace Go.Proofs.Ytgbkfjdkejjmpaa.Pure
open Go.RowKit Go.Proofs.Ytgbkfjdkejjmpaa.PC06 Go.Proofs.YtgbkfjdkejjmpaaW.PrintWords Go.Proofs.YtgbkfjdkejjmpaaW.PrintLast Go.Proofs.YtgbkfjdkejjmpaaH
set_option linter.unusedVariables false

theorem find_l0 (l : List Cl) (hl : l.length < 1000000) (p : Int) (hp : Q05.rng p) (hr : ∀ c ∈ l, Q05.rng c.f0 ∧ Q05.rng c.f1) : ∀ (r pre : List Cl), l = pre ++ r → Ev (fun k => parquetryref06_Find.l0 k l p (pre.length : Int)) (cluster_Find.ix p r (pre.length : Int))
  | [], pre, h => by
    refine Ev.succ ?_
    simp only [parquetryref06_Find.l0]
    exact Ev.ifn (by rw [h]; simp) (Ev.now _)
  | c :: r, pre, h => by
    have hlen : l.length = pre.length + (r.length + 1) := by rw [h]; simp
    have hrd : rd_T39 l (pre.length : Int) = c := by rw [h]; exact rd_at39 pre c r
    have e : wrap64 ((pre.length : Int) + 1) = ((pre ++ [c]).length : Int) := by rw [w64 (by omega) (by omega)]; simp
    obtain ⟨h0, h1⟩ := hr c (by rw [h]; simp)
    have hh := hit_iff p c hp h0 h1
    have ih := find_l0 l hl p hp hr r (pre ++ [c]) (by rw [h]; simp)
    have e2 : ((pre ++ [c]).length : Int) = (pre.length : Int) + 1 := by simp
    obtain ⟨p0, p1⟩ := hp
    obtain ⟨a0, a1⟩ := h0
    obtain ⟨b0, b1⟩ := h1
    refine Ev.succ ?_
    simp only [parquetryref06_Find.l0]
    rw [hrd]
    unfold cluster_Find.ix
    rw [e2] at ih
    have skip : cluster_Find.hit p c = false → Ev (fun k => parquetryref06_Find.l0 k l p (wrap64 ((pre.length : Int) + 1))) (if cluster_Find.hit p c = true then (pre.length : Int) else cluster_Find.ix p r ((pre.length : Int) + 1)) := fun hf => by
      rw [e, e2, hf, if_neg (by decide)]
      exact ih
    refine Ev.ifp (by omega) (Ev.ifp (by omega) ?_)
    by_cases c1 : c.f1 < 1
    · refine Ev.ifp c1 (Ev.succ ?_)
      simp only [parquetryref06_Find.j1]
      exact Ev.ifp trivial (skip (Bool.eq_false_iff.2 (fun h => by have := hh.1 h; omega)))
    · refine Ev.ifn c1 (Ev.succ ?_)
      simp only [parquetryref06_Find.j1]
      by_cases c2 : c.f0 > p
      · exact Ev.ifp (decide_eq_true c2) (skip (Bool.eq_false_iff.2 (fun h => by have := hh.1 h; omega)))
      · refine Ev.ifn (by rw [decide_eq_false c2]; decide) ?_
        by_cases c3 : c.f0 < 0
        · refine Ev.ifp c3 ?_
          rw [w64 (x := c.f1 + c.f0) (by omega) (by omega)]
          by_cases c4 : p < c.f1 + c.f0
          · refine Ev.ifp c4 (Ev.val (Ev.now _) ?_)
            rw [if_pos (hh.2 (by omega))]
          · exact Ev.ifn c4 (Ev.ifn (by omega) (skip (Bool.eq_false_iff.2 (fun h => by have := hh.1 h; omega))))
        · refine Ev.ifn c3 (Ev.ifp (by omega) ?_)
          rw [w64 (x := p - c.f0) (by omega) (by omega)]
          by_cases c4 : p - c.f0 < c.f1
          · refine Ev.ifp c4 (Ev.val (Ev.now _) ?_)
            rw [if_pos (hh.2 (by omega))]
          · exact Ev.ifn c4 (skip (Bool.eq_false_iff.2 (fun h => by have := hh.1 h; omega)))
theorem ix_ge (p : Int) : ∀ (l : List Cl) (i : Int), 0 ≤ i → cluster_Find.ix p l i = -1 ∨ 0 ≤ cluster_Find.ix p l i
  | [], i, h => .inl rfl
  | c :: r, i, h => by
    unfold cluster_Find.ix
    split
    · exact .inr h
    · exact ix_ge p r (i + 1) (by omega)
theorem ClusterFind : parquetrylaw06_ClusterFind.Pure := by
  intro l p h1 h2 h3 h4
  refine Ev.ex ?_
  unfold parquetrylaw06_ClusterFind.f
  by_cases h : (l.length : Int) > 200
  · exact Ev.ifp h (Ev.bind awake_ev (Ev.now _))
  · refine Ev.ifn h (Ev.bindc rfl ?_)
    have hr : ∀ c ∈ l, Q05.rng c.f0 ∧ Q05.rng c.f1 := fun c hc => ⟨wf_i64 (h3 c hc).1, wf_i64 (h3 c hc).2.1⟩
    have hf : Ev (fun k => parquetryref06_Find.f k l p) (cluster_Find.ix p l 0) := by
      unfold parquetryref06_Find.f
      exact find_l0 l (by omega) p (wf_i64 h4) hr l [] rfl
    refine Ev.bind hf ?_
    generalize hx : cluster_Find.ix p l 0 = x at *
    have hge := ix_ge p l 0 (by omega)
    rw [hx] at hge
    by_cases h0 : 0 ≤ x
    · rw [if_pos h0]
      refine Ev.ifp (by simp; omega) (Ev.ifp ?_ (Ev.bind awake_ev (Ev.now _)))
      rw [mx_max]
      show x = max x 0
      omega
    · rw [if_neg h0]
      refine Ev.ifp (by simp; omega) (Ev.ifp ?_ (Ev.bind awake_ev (Ev.now _)))
      rw [mx_max]
      show 0 = max x 0
      omega
end Go.Proofs.Ytgbkfjdkejjmpaa.Pure
