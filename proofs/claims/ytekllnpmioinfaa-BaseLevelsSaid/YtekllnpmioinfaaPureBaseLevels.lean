/- BaseLevels: the level that any classes tell by themselves is the document's answer, and the classes stay (the pure statement over the printed Lean functions). Conditions: those of the statement. -/
import Derived.Test.YtekllnpmioinfaaPC10x17
import Derived.Test.YtekllnpmioinfaaHQ10
namespace Go.Proofs.Ytekllnpmioinfaa.Pure
open Go.RowKit Go.Proofs.Ytekllnpmioinfaa.PC10 Go.Proofs.YtekllnpmioinfaaW.PrintWords Go.Proofs.YtekllnpmioinfaaW.PrintLast Go.Proofs.YtekllnpmioinfaaH
set_option linter.unusedVariables false

/-- Does one of the first isolates hold a place? -/
def holds (l : List Int) (i : Nat) : Nat → Bool
  | 0 => false
  | q + 1 => holds l i q || (ini (at' l q) && decide (endOf l q > i))
theorem holds_iff (l : List Int) (i : Nat) : ∀ q, holds l i q = true ↔ ∃ k, k < q ∧ ini (at' l k) = true ∧ endOf l k > i
  | 0 => by simp [holds]
  | q + 1 => by
    simp only [holds, Bool.or_eq_true, Bool.and_eq_true, decide_eq_true_eq]
    rw [holds_iff l i q]
    constructor
    · rintro (⟨k, h1, h2⟩ | h)
      · exact ⟨k, by omega, h2⟩
      · exact ⟨q, by omega, h⟩
    · rintro ⟨k, h1, h2⟩
      by_cases e : k = q
      · subst e; exact .inr h2
      · exact .inl ⟨k, by omega, h2⟩
theorem holds_ope (l : List Int) (i : Nat) (hi : i < l.length) (h22 : at' l i ≠ 22) : holds l i i = true ↔ 0 < (ope l i).length := by
  rw [holds_iff]
  constructor
  · rintro ⟨k, h1, h2, h3⟩
    exact List.length_pos_of_mem ((end_gt l i k hi h1 h22 h2).1 h3)
  · intro h
    cases ho : ope l i with
    | nil => rw [ho] at h; simp at h
    | cons k t =>
      have hm : k ∈ ope l i := by rw [ho]; simp
      have hk := ope_lt l i (by omega) k hm
      have hk2 := ope_ini l i (by omega) k hm
      exact ⟨k, hk, hk2, (end_gt l i k hi hk h22 hk2).2 hm⟩
theorem refLevel_l0 (l : List Int) (hl : l.length < 1000) : ∀ (s i : Nat), i + s = l.length → Ev (fun k => parquetryref10_Level.l0 k l (i : Int)) (lev (l.drop i) (ope l i).length)
  | 0, i, h => by
    refine Ev.succ ?_
    simp only [parquetryref10_Level.l0]
    refine Ev.ifn (by omega) (Ev.val (Ev.now _) ?_)
    rw [List.drop_of_length_le (by omega)]
    cases (ope l i).length <;> rfl
  | s + 1, i, h => by
    have hi : i < l.length := by omega
    have ih := refLevel_l0 l hl s (i + 1) (by omega)
    have hd := drop_at l i hi
    have hos := ope_succ l i hi
    have e1 : wrap64 ((i : Int) + 1) = ((i + 1 : Nat) : Int) := by rw [w64 (by omega) (by omega)]; omega
    have goal : ∀ b : Bool, b = holds l i i → Ev (fun k => parquetryref10_Level.l1 k l (i : Int) b (i : Int)) (lev (l.drop i) (ope l i).length) := fun b hb => by
      refine Ev.succ ?_
      simp only [parquetryref10_Level.l1]
      refine Ev.ifn (by omega) ?_
      rw [hd]
      cases b with
      | true =>
        have next : lev (at' l i :: l.drop (i + 1)) (ope l i).length = lev (l.drop (i + 1)) (ope l (i + 1)).length := by
          by_cases h22 : at' l i = 22
          · rw [if_neg (fun h => ini_ne h h22), if_pos h22] at hos
            rw [hos, List.length_tail]
            cases hn : (ope l i).length with
            | zero => 
              exfalso
              obtain ⟨k, h1, h2, h3⟩ := (holds_iff l i i).1 hb.symm
              have h4 : k ∈ ope l i := by
                rw [List.mem_iff_getElem?]
                have h5 := clo_seg ((l.take i).drop (k + 1)) 0
                cases hs : seg ((l.take i).drop (k + 1)) 0 with
                | some j => exact ⟨j, (ope_seg l i k j (by omega) h1 h2).1 hs⟩
                | none =>
                  exfalso
                  have h6 : endOf l k < i := by
                    have h7 := split_at l i k hi h1
                    have h8 := seg_len l i k (by omega) h1
                    unfold endOf
                    rw [h7, clo_append]
                    cases hc : clo ((l.take i).drop (k + 1)) 0 with
                    | none => exact absurd hs (h5.1 hc)
                    | some e =>
                      have := clo_lt _ _ _ hc
                      simp only
                      omega
                  omega
              have := List.length_pos_of_mem h4
              omega
            | succ n => rw [lev_s, if_pos h22]; rfl
          · have h0 := (holds_ope l i hi h22).1 hb.symm
            cases hn : (ope l i).length with
            | zero => omega
            | succ n =>
              rw [lev_s, if_neg h22]
              by_cases hk : ini (at' l i) = true
              · rw [if_pos hk] at hos ⊢
                rw [hos, List.length_cons, hn]
              · rw [if_neg hk, if_neg h22] at hos
                rw [if_neg hk, hos, hn]
        refine Ev.ifp rfl (Ev.succ ?_)
        simp only [parquetryref10_Level.j2]
        rw [e1, next]
        exact Ev.ifn (by decide) (Ev.ifp trivial ih)
      | false =>
        have h0 : at' l i ≠ 22 → (ope l i).length = 0 := fun h22 => by
          have h3 := holds_ope l i hi h22
          rw [← hb] at h3
          have : ¬ 0 < (ope l i).length := fun h => by simpa using h3.2 h
          omega
        have next : at' l i ≠ 0 → at' l i ≠ 1 → at' l i ≠ 2 → lev (at' l i :: l.drop (i + 1)) (ope l i).length = lev (l.drop (i + 1)) (ope l (i + 1)).length := fun c0 c1 c2 => by
          by_cases h22 : at' l i = 22
          · rw [if_neg (fun h => ini_ne h h22), if_pos h22] at hos
            rw [hos, List.length_tail]
            cases hn : (ope l i).length with
            | zero =>
              conv => lhs; unfold lev
              rw [if_neg c0, if_neg c1, if_neg c2, if_neg (fun h => ini_ne h h22)]
            | succ n => rw [lev_s, if_pos h22]; rfl
          · have h00 := h0 h22
            rw [h00]
            conv => lhs; unfold lev
            rw [if_neg c0, if_neg c1, if_neg c2]
            by_cases hk : ini (at' l i) = true
            · rw [if_pos hk] at hos ⊢
              rw [hos, List.length_cons, h00]
            · rw [if_neg hk, if_neg h22] at hos
              rw [if_neg hk, hos, h00]
        have first : ∀ (c v : Int), at' l i = c → c ≠ 22 → ini c = false → (∀ r, lev (c :: r) 0 = (v, true)) → lev (at' l i :: l.drop (i + 1)) (ope l i).length = (v, true) := fun c v h1 h2 _ h4 => by
          rw [h0 (by rw [h1]; exact h2), h1, h4]
        rw [rd_at]
        refine Ev.ifn (by decide) (Ev.ifp (by omega) (Ev.ifp (by omega) (Ev.succ ?_)))
        simp only [parquetryref10_Level.j2]
        rw [e1, rd_at]
        by_cases c0 : at' l i = 0
        · exact Ev.ifp (by rw [c0]; rfl) (Ev.val (Ev.now _) (first 0 0 c0 (by decide) rfl (fun r => rfl)).symm)
        · refine Ev.ifn (by rw [beq_eq_false_iff_ne.2 c0]; decide) (Ev.ifn (by decide) (Ev.ifp (by omega) (Ev.ifp (by omega) ?_)))
          by_cases c1 : at' l i = 1
          · exact Ev.ifp c1 (Ev.val (Ev.now _) (first 1 1 c1 (by decide) rfl (fun r => rfl)).symm)
          · refine Ev.ifn c1 ?_
            by_cases c2 : at' l i = 2
            · exact Ev.ifp c2 (Ev.val (Ev.now _) (first 2 1 c2 (by decide) rfl (fun r => rfl)).symm)
            · rw [next c0 c1 c2]
              exact Ev.ifn c2 ih
    have loop : ∀ (s q : Nat) (b : Bool), q + s = i → b = holds l i q → Ev (fun k => parquetryref10_Level.l1 k l (i : Int) b (q : Int)) (lev (l.drop i) (ope l i).length) := fun s => by
      induction s with
      | zero =>
        intro q b hq hb
        obtain rfl : q = i := by omega
        exact goal b hb
      | succ s ihs =>
        intro q b hq hb
        have e2 : wrap64 ((q : Int) + 1) = ((q + 1 : Nat) : Int) := by rw [w64 (by omega) (by omega)]; omega
        refine Ev.succ ?_
        simp only [parquetryref10_Level.l1]
        rw [e2, rd_at]
        refine Ev.ifp (by omega) ?_
        cases b with
        | true => exact Ev.ifp rfl (ihs (q + 1) true (by omega) (by unfold holds; rw [← hb]; rfl))
        | false =>
          refine Ev.ifn (by decide) (Ev.ifp (by omega) (Ev.ifp (by omega) (Ev.bindc (initiator_eq _) ?_)))
          by_cases hk : ini (at' l q) = true
          · refine Ev.ifp hk (Ev.bind (end_ev l (by omega) q (by omega)) (ihs (q + 1) _ (by omega) ?_))
            unfold holds
            rw [← hb, hk]
            simp only [Bool.false_or, Bool.true_and]
            rw [Bool.eq_iff_iff]
            simp
          · refine Ev.ifn hk (ihs (q + 1) false (by omega) ?_)
            unfold holds
            rw [← hb, Bool.eq_false_iff.2 hk]
            rfl
    refine Ev.succ ?_
    simp only [parquetryref10_Level.l0]
    exact Ev.ifp (by omega) (loop i 0 false (by omega) rfl)
theorem refLevel_ev (l : List Int) (hl : l.length < 1000) : Ev (fun k => parquetryref10_Level.f k l) (lev l 0) := by
  unfold parquetryref10_Level.f
  exact refLevel_l0 l hl l.length 0 (by omega)
theorem BaseLevels : parquetrylaw10_BaseLevels.Pure := by
  intro l h1 h2 h3
  refine Ev.ex ?_
  unfold parquetrylaw10_BaseLevels.f
  by_cases hl : (l.length : Int) > 120
  · exact Ev.ifp hl (Ev.bind awake_ev (Ev.now _))
  · refine Ev.ifn hl (Ev.bindc rfl (Ev.ifp (by simp; omega) (Ev.bindc rfl ?_)))
    rw [List.nil_append]
    exact Ev.bind (level_ev l (by omega)) (Ev.bind (refLevel_ev l (by omega)) (Ev.ifp rfl (Ev.ifp (by simp) (Ev.bind (same_ev l (by omega)) (Ev.ifp rfl (Ev.bind awake_ev (Ev.now _)))))))
end Go.Proofs.Ytekllnpmioinfaa.Pure
