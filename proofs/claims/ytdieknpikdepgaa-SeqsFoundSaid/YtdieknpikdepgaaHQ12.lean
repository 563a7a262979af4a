/- Chapter 11: where an isolate ends, and which level a row of classes has, by the document. Conditions: at most 1000 classes. -/
import Derived.Test.YtdieknpikdepgaaPC12x9
import Derived.Test.YtdieknpikdepgaaHM12
namespace Go.Proofs.Ytdieknpikdepgaa.PC12
open Go.RowKit Go.Proofs.YtdieknpikdepgaaW.PrintWords Go.Proofs.YtdieknpikdepgaaW.PrintLast Go.Proofs.YtdieknpikdepgaaW.PrintMore Go.Proofs.YtdieknpikdepgaaH
set_option linter.unusedVariables false
set_option linter.unusedSimpArgs false

theorem initiator_eq (c : Int) : parquetryref10_Initiator.f c = some (ini c) := by
  unfold parquetryref10_Initiator.f ini
  by_cases h1 : c ≥ 19
  · rw [if_pos h1]
    congr 1
    rw [Bool.eq_iff_iff]
    simp only [Bool.or_eq_true, decide_eq_true_eq]
    omega
  · rw [if_neg h1]
    congr 1
    have : ¬ (c = 19 ∨ c = 20 ∨ c = 21) := by omega
    simp only [not_or] at this
    simp [this]
def endV (l : List Int) (i : Nat) (o : Option Nat) : Int := match o with | some e => ((i + e : Nat) : Int) | none => (l.length : Int)
theorem end_l0 (l : List Int) (hl : l.length < 1000000) : ∀ (r pre : List Int) (d : Nat), l = pre ++ r → d ≤ pre.length → Ev (fun k => parquetryref10_End.l0 k l (d : Int) (pre.length : Int)) (endV l pre.length (clo r d))
  | [], pre, d, h, hd => by
    refine Ev.succ ?_
    simp only [parquetryref10_End.l0]
    exact Ev.ifn (by rw [h]; simp) (Ev.now _)
  | c :: r, pre, d, h, hd => by
    have hlen : l.length = pre.length + (r.length + 1) := by rw [h]; simp
    have hrd : rd l (pre.length : Int) = c := by rw [h]; exact rd_mid pre c r
    have ih := fun d hd => end_l0 l hl r (pre ++ [c]) d (by rw [h]; simp) hd
    have hm : ∀ o : Option Nat, endV l (pre ++ [c]).length o = endV l pre.length (o.map (· + 1)) := fun o => by
      cases o with
      | none => rfl
      | some e => simp [endV]; omega
    have e1 : wrap64 ((pre.length : Int) + 1) = ((pre ++ [c]).length : Int) := by rw [w64 (by omega) (by omega)]; simp
    refine Ev.succ ?_
    simp only [parquetryref10_End.l0]
    rw [hrd]
    refine Ev.ifp (by omega) (Ev.ifp (by omega) ?_)
    by_cases h22 : c = 22
    · subst h22
      refine Ev.ifp rfl (Ev.succ ?_)
      simp only [parquetryref10_End.j1]
      rw [hrd, e1]
      cases d with
      | zero => exact Ev.ifp rfl (Ev.val (Ev.now _) (by simp [endV, clo]))
      | succ d =>
        have := ih d (by simp; omega)
        rw [hm, ← clo_s] at this
        refine Ev.ifn (by simp; omega) (Ev.ifp (by omega) (Ev.ifp (by omega) (Ev.ifp rfl (Ev.bindc (initiator_eq 22) (Ev.ifn (by decide) ?_)))))
        rw [w64 (x := ((d + 1 : Nat) : Int) - 1) (by omega) (by omega), show ((d + 1 : Nat) : Int) - 1 = (d : Int) from by omega]
        exact this
    · refine Ev.ifn h22 (Ev.succ ?_)
      simp only [parquetryref10_End.j1]
      rw [hrd, e1]
      refine Ev.ifn (by decide) (Ev.ifp (by omega) (Ev.ifp (by omega) (Ev.ifn h22 (Ev.bindc (initiator_eq c) ?_))))
      rw [clo_c c r d h22]
      by_cases hi : ini c = true
      · rw [if_pos hi, w64 (x := (d : Int) + 1) (by omega) (by omega)]
        have := ih (d + 1) (by simp; omega)
        rw [hm, show ((d + 1 : Nat) : Int) = (d : Int) + 1 from by omega] at this
        exact Ev.ifp hi this
      · rw [if_neg hi]
        have := ih d (by simp; omega)
        rw [hm] at this
        exact Ev.ifn hi this
theorem end_ev (l : List Int) (hl : l.length < 1000000) (i : Nat) (hi : i < l.length) : Ev (fun k => parquetryref10_End.f k l (i : Int)) (endOf l i : Int) := by
  unfold parquetryref10_End.f
  have h2 : (l.take (i + 1)).length = i + 1 := by rw [List.length_take]; omega
  have := end_l0 l hl (l.drop (i + 1)) (l.take (i + 1)) 0 (List.take_append_drop _ _).symm (by omega)
  rw [h2] at this
  rw [w64 (x := (i : Int) + 1) (by omega) (by omega), show (i : Int) + 1 = ((i + 1 : Nat) : Int) from by omega]
  refine Ev.val this ?_
  unfold endV endOf
  cases clo (l.drop (i + 1)) 0 <;> rfl
/-- Does one of the first isolates hold a place? -/
def holds (l : List Int) (i : Nat) : Nat → Bool
  | 0 => false
  | q + 1 => holds l i q || (ini (at' l q) && decide (endOf l q > i))
theorem holds_iff (l : List Int) (i : Nat) : ∀ q, holds l i q = true ↔ ∃ k, k < q ∧ ini (at' l k) = true ∧ endOf l k > i
  | 0 => by simp [holds]
  | q + 1 => by
    simp only [holds, Bool.or_eq_true, Bool.and_eq_true, decide_eq_true_eq]
    rw [holds_iff l i q]
    constructor
    · rintro (⟨k, h1, h2⟩ | h)
      · exact ⟨k, by omega, h2⟩
      · exact ⟨q, by omega, h⟩
    · rintro ⟨k, h1, h2⟩
      by_cases e : k = q
      · subst e; exact .inr h2
      · exact .inl ⟨k, by omega, h2⟩
theorem holds_ope (l : List Int) (i : Nat) (hi : i < l.length) (h22 : at' l i ≠ 22) : holds l i i = true ↔ 0 < (ope l i).length := by
  rw [holds_iff]
  constructor
  · rintro ⟨k, h1, h2, h3⟩
    exact List.length_pos_of_mem ((end_gt l i k hi h1 h22 h2).1 h3)
  · intro h
    cases ho : ope l i with
    | nil => rw [ho] at h; simp at h
    | cons k t =>
      have hm : k ∈ ope l i := by rw [ho]; simp
      have hk := ope_lt l i (by omega) k hm
      have hk2 := ope_ini l i (by omega) k hm
      exact ⟨k, hk, hk2, (end_gt l i k hi hk h22 hk2).2 hm⟩
theorem refLevel_l0 (l : List Int) (hl : l.length < 1000) : ∀ (s i : Nat), i + s = l.length → Ev (fun k => parquetryref10_Level.l0 k l (i : Int)) (lev (l.drop i) (ope l i).length)
  | 0, i, h => by
    refine Ev.succ ?_
    simp only [parquetryref10_Level.l0]
    refine Ev.ifn (by omega) (Ev.val (Ev.now _) ?_)
    rw [List.drop_of_length_le (by omega)]
    cases (ope l i).length <;> rfl
  | s + 1, i, h => by
    have hi : i < l.length := by omega
    have ih := refLevel_l0 l hl s (i + 1) (by omega)
    have hd := drop_at l i hi
    have hos := ope_succ l i hi
    have e1 : wrap64 ((i : Int) + 1) = ((i + 1 : Nat) : Int) := by rw [w64 (by omega) (by omega)]; omega
    have goal : ∀ b : Bool, b = holds l i i → Ev (fun k => parquetryref10_Level.l1 k l (i : Int) b (i : Int)) (lev (l.drop i) (ope l i).length) := fun b hb => by
      refine Ev.succ ?_
      simp only [parquetryref10_Level.l1]
      refine Ev.ifn (by omega) ?_
      rw [hd]
      cases b with
      | true =>
        have next : lev (at' l i :: l.drop (i + 1)) (ope l i).length = lev (l.drop (i + 1)) (ope l (i + 1)).length := by
          by_cases h22 : at' l i = 22
          · rw [if_neg (fun h => ini_ne h h22), if_pos h22] at hos
            rw [hos, List.length_tail]
            cases hn : (ope l i).length with
            | zero => 
              exfalso
              obtain ⟨k, h1, h2, h3⟩ := (holds_iff l i i).1 hb.symm
              have h4 : k ∈ ope l i := by
                rw [List.mem_iff_getElem?]
                have h5 := clo_seg ((l.take i).drop (k + 1)) 0
                cases hs : seg ((l.take i).drop (k + 1)) 0 with
                | some j => exact ⟨j, (ope_seg l i k j (by omega) h1 h2).1 hs⟩
                | none =>
                  exfalso
                  have h6 : endOf l k < i := by
                    have h7 := split_at l i k hi h1
                    have h8 := seg_len l i k (by omega) h1
                    unfold endOf
                    rw [h7, clo_append]
                    cases hc : clo ((l.take i).drop (k + 1)) 0 with
                    | none => exact absurd hs (h5.1 hc)
                    | some e =>
                      have := clo_lt _ _ _ hc
                      simp only
                      omega
                  omega
              have := List.length_pos_of_mem h4
              omega
            | succ n => rw [lev_s, if_pos h22]; rfl
          · have h0 := (holds_ope l i hi h22).1 hb.symm
            cases hn : (ope l i).length with
            | zero => omega
            | succ n =>
              rw [lev_s, if_neg h22]
              by_cases hk : ini (at' l i) = true
              · rw [if_pos hk] at hos ⊢
                rw [hos, List.length_cons, hn]
              · rw [if_neg hk, if_neg h22] at hos
                rw [if_neg hk, hos, hn]
        refine Ev.ifp rfl (Ev.succ ?_)
        simp only [parquetryref10_Level.j2]
        rw [e1, next]
        exact Ev.ifn (by decide) (Ev.ifp trivial ih)
      | false =>
        have h0 : at' l i ≠ 22 → (ope l i).length = 0 := fun h22 => by
          have h3 := holds_ope l i hi h22
          rw [← hb] at h3
          have : ¬ 0 < (ope l i).length := fun h => by simpa using h3.2 h
          omega
        have next : at' l i ≠ 0 → at' l i ≠ 1 → at' l i ≠ 2 → lev (at' l i :: l.drop (i + 1)) (ope l i).length = lev (l.drop (i + 1)) (ope l (i + 1)).length := fun c0 c1 c2 => by
          by_cases h22 : at' l i = 22
          · rw [if_neg (fun h => ini_ne h h22), if_pos h22] at hos
            rw [hos, List.length_tail]
            cases hn : (ope l i).length with
            | zero =>
              conv => lhs; unfold lev
              rw [if_neg c0, if_neg c1, if_neg c2, if_neg (fun h => ini_ne h h22)]
            | succ n => rw [lev_s, if_pos h22]; rfl
          · have h00 := h0 h22
            rw [h00]
            conv => lhs; unfold lev
            rw [if_neg c0, if_neg c1, if_neg c2]
            by_cases hk : ini (at' l i) = true
            · rw [if_pos hk] at hos ⊢
              rw [hos, List.length_cons, h00]
            · rw [if_neg hk, if_neg h22] at hos
              rw [if_neg hk, hos, h00]
        have first : ∀ (c v : Int), at' l i = c → c ≠ 22 → ini c = false → (∀ r, lev (c :: r) 0 = (v, true)) → lev (at' l i :: l.drop (i + 1)) (ope l i).length = (v, true) := fun c v h1 h2 _ h4 => by
          rw [h0 (by rw [h1]; exact h2), h1, h4]
        rw [rd_at]
        refine Ev.ifn (by decide) (Ev.ifp (by omega) (Ev.ifp (by omega) (Ev.succ ?_)))
        simp only [parquetryref10_Level.j2]
        rw [e1, rd_at]
        by_cases c0 : at' l i = 0
        · exact Ev.ifp (by rw [c0]; rfl) (Ev.val (Ev.now _) (first 0 0 c0 (by decide) rfl (fun r => rfl)).symm)
        · refine Ev.ifn (by rw [beq_eq_false_iff_ne.2 c0]; decide) (Ev.ifn (by decide) (Ev.ifp (by omega) (Ev.ifp (by omega) ?_)))
          by_cases c1 : at' l i = 1
          · exact Ev.ifp c1 (Ev.val (Ev.now _) (first 1 1 c1 (by decide) rfl (fun r => rfl)).symm)
          · refine Ev.ifn c1 ?_
            by_cases c2 : at' l i = 2
            · exact Ev.ifp c2 (Ev.val (Ev.now _) (first 2 1 c2 (by decide) rfl (fun r => rfl)).symm)
            · rw [next c0 c1 c2]
              exact Ev.ifn c2 ih
    have loop : ∀ (s q : Nat) (b : Bool), q + s = i → b = holds l i q → Ev (fun k => parquetryref10_Level.l1 k l (i : Int) b (q : Int)) (lev (l.drop i) (ope l i).length) := fun s => by
      induction s with
      | zero =>
        intro q b hq hb
        obtain rfl : q = i := by omega
        exact goal b hb
      | succ s ihs =>
        intro q b hq hb
        have e2 : wrap64 ((q : Int) + 1) = ((q + 1 : Nat) : Int) := by rw [w64 (by omega) (by omega)]; omega
        refine Ev.succ ?_
        simp only [parquetryref10_Level.l1]
        rw [e2, rd_at]
        refine Ev.ifp (by omega) ?_
        cases b with
        | true => exact Ev.ifp rfl (ihs (q + 1) true (by omega) (by unfold holds; rw [← hb]; rfl))
        | false =>
          refine Ev.ifn (by decide) (Ev.ifp (by omega) (Ev.ifp (by omega) (Ev.bindc (initiator_eq _) ?_)))
          by_cases hk : ini (at' l q) = true
          · refine Ev.ifp hk (Ev.bind (end_ev l (by omega) q (by omega)) (ihs (q + 1) _ (by omega) ?_))
            unfold holds
            rw [← hb, hk]
            simp only [Bool.false_or, Bool.true_and]
            rw [Bool.eq_iff_iff]
            simp
          · refine Ev.ifn hk (ihs (q + 1) false (by omega) ?_)
            unfold holds
            rw [← hb, Bool.eq_false_iff.2 hk]
            rfl
    refine Ev.succ ?_
    simp only [parquetryref10_Level.l0]
    exact Ev.ifp (by omega) (loop i 0 false (by omega) rfl)
theorem refLevel_ev (l : List Int) (hl : l.length < 1000) : Ev (fun k => parquetryref10_Level.f k l) (lev l 0) := by
  unfold parquetryref10_Level.f
  exact refLevel_l0 l hl l.length 0 (by omega)
end Go.Proofs.Ytdieknpikdepgaa.PC12
