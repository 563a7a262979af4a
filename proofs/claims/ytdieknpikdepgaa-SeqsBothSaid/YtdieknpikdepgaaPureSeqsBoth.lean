/- SeqsBoth: where there is no B, an initiator and its PDI stand in one sequence (the pure statement over the printed Lean functions). Conditions: those of the statement. -/
import Derived.Test.YtdieknpikdepgaaPC12x15
import Derived.Test.YtdieknpikdepgaaHZ12
namespace Go.Proofs.Ytdieknpikdepgaa.Pure
open Go.RowKit Go.Proofs.Ytdieknpikdepgaa.PC12 Go.Proofs.YtdieknpikdepgaaW.PrintWords Go.Proofs.YtdieknpikdepgaaW.PrintLast Go.Proofs.YtdieknpikdepgaaH
set_option linter.unusedVariables false
set_option linter.unusedSimpArgs false

theorem pair_root (l : List Int) (b : Int) (hb : b = 0 ∨ b = 1) (hB : ∀ x, x < l.length → at' l x ≠ 10) (k i : Nat) (hk : k < i) (hi : i < l.length) (hc : ini (at' l k) = true) (h22 : at' l i = 22) (ho : (ope l i).head? = some k) : root (lv l b) l i = root (lv l b) l k := by
  obtain ⟨hVi, hbt⟩ := pair_lv l b k i hk hi hc h22 ho
  have hbt := hbt (fun x h1 h2 => hB x (by omega))
  have H := lv_Lv l b hb
  have k0 := H.kini k (by omega) hc
  have i0 := H.kpdi i hi h22
  generalize lv l b = V at *
  have hplain : ∀ x q, prv V x = some q → V q = V x → root V l x = root V l q := fun x q h1 h2 => by
    have hb : bgn V x = false := bgn_false.2 ⟨q, h1, h2⟩
    refine root_some ?_ (prv_some.1 h1).1
    unfold pred
    rw [hb, if_neg (by decide)]
    exact h1
  have hq0 : ∀ x, k < x → ∃ q, prv V x = some q ∧ k ≤ q ∧ q < x ∧ 0 ≤ V q := fun x hx => by
    cases hq : prv V x with
    | none => have := prv_none.1 hq k hx; omega
    | some q =>
      have h1 := prv_some.1 hq
      refine ⟨q, rfl, ?_, h1.1, h1.2.1⟩
      by_cases h : k ≤ q
      · exact h
      · have := h1.2.2 k (by omega) hx
        omega
  rcases hbt with hA | hA
  · have key : ∀ m x, x ≤ m → k ≤ x → x ≤ i → 0 ≤ V x → root V l x = root V l k := by
      intro m
      induction m with
      | zero => intro x h0 h1 h2 h3; obtain rfl : x = k := by omega
                rfl
      | succ m ih =>
        intro x h0 h1 h2 h3
        by_cases e : x = k
        · rw [e]
        · obtain ⟨q, h4, h5, h6, h7⟩ := hq0 x (by omega)
          have hv : ∀ y, k ≤ y → y ≤ i → 0 ≤ V y → V y = V k := fun y g1 g2 g3 => by
            by_cases e1 : y = k
            · rw [e1]
            · by_cases e2 : y = i
              · rw [e2]; exact hVi
              · exact hA y (by omega) (by omega) g3
          rw [hplain x q h4 (by rw [hv q h5 (by omega) h7, hv x h1 h2 h3])]
          exact ih q (by omega) h5 (by omega) h7
    exact key i i (Nat.le_refl _) (by omega) (Nat.le_refl _) i0
  · obtain ⟨q, h4, h5, h6, h7⟩ := hq0 i hk
    by_cases e : q = k
    · subst e
      exact hplain i q h4 hVi.symm
    · have hv := hA q (by omega) h6 h7
      have hbg : bgn V i = true := by
        unfold bgn
        rw [h4]
        simp only [decide_eq_true_eq]
        omega
      have hls : lst V l.length k = true := by
        cases hn : nx V l.length (k + 1) with
        | none => unfold lst; rw [hn]
        | some y =>
          have h8 := nx_some.1 hn
          have hy : y < i := by
            by_cases hy : y < i
            · exact hy
            · have := h8.2.2.2 q (by omega) (by omega)
              omega
          have := hA y (by omega) hy h8.2.2.1
          unfold lst
          rw [hn]
          simp only [decide_eq_true_eq]
          omega
      refine root_some ?_ hk
      unfold pred
      rw [if_pos hbg, if_pos h22, ho]
      dsimp only
      rw [if_pos hls]
theorem both_l1 (l : List Int) (b : Int) (hl : l.length ≤ 500) (hb : b = 0 ∨ b = 1) (hB : ∀ x, x < l.length → at' l x ≠ 10) : ∀ n i, i + n = l.length → Ev (fun k => parquetrylaw12_SeqsBoth.l1 k l ((List.range l.length).map (wh (lv l b) l)) (mAll l) (i : Int)) true := by
  have hm : (mAll l).length = l.length := mAll_len l
  have H := lv_Lv l b hb
  intro n
  induction n with
  | zero =>
    intro i hi
    refine Ev.succ ?_
    simp only [parquetrylaw12_SeqsBoth.l1]
    exact Ev.ifn (by omega) (Ev.bind awake_ev (Ev.now _))
  | succ n ih =>
    intro i hi
    have hil : i < l.length := by omega
    have hw : wrap64 ((i : Int) + 1) = ((i + 1 : Nat) : Int) := by rw [w64 (by omega) (by omega)]; omega
    have hnext := ih (i + 1) (by omega)
    have hrm : rd (mAll l) (i : Int) = mAt l i := mAll_get l i hil
    have hrc : rd l (i : Int) = at' l i := rfl
    have hwl : ((List.range l.length).map (wh (lv l b) l)).length = l.length := by simp
    refine Ev.succ ?_
    simp only [parquetrylaw12_SeqsBoth.l1]
    rw [hw, hrm, hrc]
    refine Ev.ifp (by omega) (Ev.ifp (by omega) (Ev.ifp (by omega) ?_))
    by_cases h22 : at' l i = 22
    · refine Ev.ifp h22 ?_
      cases ho : (ope l i).head? with
      | none =>
        have hmi : mAt l i = -1 := by
          unfold mAt
          rw [h22, if_neg (by decide), if_pos rfl, ho]
        rw [hmi]
        exact Ev.ifn (by decide) hnext
      | some k =>
        have hmi : mAt l i = (k : Int) := by
          unfold mAt
          rw [h22, if_neg (by decide), if_pos rfl, ho]
        rw [hmi]
        have hmem : k ∈ ope l i := List.mem_of_head? ho
        have hk := ope_lt l i (by omega) k hmem
        have hc := ope_ini l i (by omega) k hmem
        have hr := pair_root l b hb hB k i hk hil hc h22 ho
        have r1 : rd ((List.range l.length).map (wh (lv l b) l)) (i : Int) = ((idx (lv l b) l (root (lv l b) l k) : Nat) : Int) := by
          rw [rd_map' _ _ _ hil]
          unfold wh
          rw [if_pos (H.kpdi i hil h22), hr]
        have r2 : rd ((List.range l.length).map (wh (lv l b) l)) (k : Int) = ((idx (lv l b) l (root (lv l b) l k) : Nat) : Int) := by
          rw [rd_map' _ _ _ (by omega)]
          unfold wh
          rw [if_pos (H.kini k (by omega) hc)]
        rw [r1, r2]
        exact Ev.ifp (Int.natCast_nonneg _) (Ev.ifn (by omega) (Ev.ifp (by rw [hwl]; omega) (Ev.ifp (Int.natCast_nonneg _) (Ev.ifp (by rw [hwl]; omega) (Ev.ifp rfl (Ev.ifn (Int.not_lt.2 (Int.natCast_nonneg _)) hnext))))))
    · exact Ev.ifn h22 hnext
theorem both_l0 (l : List Int) (a1 : Int) (hl : l.length ≤ 500) : ∀ n i, i + n = l.length → (∀ x, x < i → at' l x ≠ 10) → Ev (fun k => parquetrylaw12_SeqsBoth.l0 k l a1 (i : Int)) true := by
  have hb := and_one a1
  intro n
  induction n with
  | zero =>
    intro i hi hB
    obtain rfl : i = l.length := by omega
    have h1 := seqs_ev l (by omega) _ hb
    have h2 := where_ev (l := l) (by omega) hb
    refine Ev.succ ?_
    simp only [parquetrylaw12_SeqsBoth.l0]
    refine Ev.ifn (by omega) (Ev.bind h1 (Ev.bind h2 (Ev.bind (match_ev l (by omega)) (Ev.ifp (by simp) ?_))))
    have e : (((mAll l).length : Int) != (l.length : Int)) = false := by rw [mAll_len]; simp
    rw [e]
    refine Ev.succ ?_
    simp only [parquetrylaw12_SeqsBoth.j1]
    exact Ev.ifn (by decide) (both_l1 l _ hl hb hB l.length 0 (by omega))
  | succ n ih =>
    intro i hi hB
    have hw : wrap64 ((i : Int) + 1) = ((i + 1 : Nat) : Int) := by rw [w64 (by omega) (by omega)]; omega
    refine Ev.succ ?_
    simp only [parquetrylaw12_SeqsBoth.l0]
    refine Ev.ifp (by omega) (Ev.ifp (by omega) ?_)
    by_cases h : at' l i = 10
    · exact Ev.ifp h (Ev.bind awake_ev (Ev.now _))
    · refine Ev.ifn h ?_
      rw [hw]
      exact ih (i + 1) (by omega) (fun x hx => by
        by_cases e : x = i
        · rw [e]; exact h
        · exact hB x (by omega))
theorem SeqsBoth : parquetrylaw12_SeqsBoth.Pure := by
  intro l a1 _ _ _ hw
  refine Ev.ex ?_
  unfold parquetrylaw12_SeqsBoth.f
  by_cases hl : (l.length : Int) > 500
  · exact Ev.ifp hl (Ev.bind awake_ev (Ev.now _))
  · exact Ev.ifn hl (both_l0 l a1 (by omega) l.length 0 (by omega) (fun x hx => by omega))
end Go.Proofs.Ytdieknpikdepgaa.Pure
