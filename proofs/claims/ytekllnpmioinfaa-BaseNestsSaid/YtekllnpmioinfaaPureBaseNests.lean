/- BaseNests: each initiator that has a PDI is that one's; of two isolates the one stands in the other one, or they stand apart; behind an initiator without a PDI each PDI has an initiator behind that one (the pure statement over the printed Lean functions). Conditions: those of the statement. -/
import Derived.Test.YtekllnpmioinfaaPC10x4
import Derived.Test.YtekllnpmioinfaaHP10
namespace Go.Proofs.Ytekllnpmioinfaa.Pure
open Go.RowKit Go.Proofs.Ytekllnpmioinfaa.PC10 Go.Proofs.YtekllnpmioinfaaW.PrintWords Go.Proofs.YtekllnpmioinfaaW.PrintLast Go.Proofs.YtekllnpmioinfaaH
set_option linter.unusedVariables false
open parquetrylaw10_BaseNests (opB one good aw)

theorem opB_ini (c : Int) : opB c = ini c := rfl
/-- An isolate that is not over yet is open. -/
theorem open_of (l : List Int) (p k : Nat) (hp : p < l.length) (hk : k < p) (hi : ini (at' l k) = true) (he : p ≤ endOf l k) : k ∈ ope l p := by
  have hs := split_at l p k hp hk
  have hl := seg_len l p k (by omega) hk
  rw [List.mem_iff_getElem?]
  have key : seg ((l.take p).drop (k + 1)) 0 ≠ none := by
    refine (clo_seg _ _).1 ?_
    cases hc : clo ((l.take p).drop (k + 1)) 0 with
    | none => rfl
    | some e =>
      exfalso
      have h2 := clo_lt _ _ _ hc
      unfold endOf at he
      rw [hs, clo_append, hc] at he
      simp only at he
      omega
  obtain ⟨j, hj⟩ := Option.ne_none_iff_exists'.1 key
  exact ⟨j, (ope_seg l p k j (by omega) hk hi).1 hj⟩
theorem ope_head (l : List Int) (p k j : Nat) (hk : k ∈ ope l p) (hj : (ope l p).head? = some j) : k ≤ j := by
  have hf := stk_fall (l.take p).reverse
  have e : ope l p = stk (l.take p).reverse := rfl
  rw [← e] at hf
  cases ho : ope l p with
  | nil => rw [ho] at hj; simp at hj
  | cons x r =>
    rw [ho] at hj hk hf
    obtain rfl : x = j := by simpa using hj
    rcases List.mem_cons.1 hk with rfl | h
    · exact Nat.le_refl _
    · have := (List.pairwise_cons.1 hf).1 k h
      omega
theorem end_22 (l : List Int) (i : Nat) (hi : i < l.length) (he : endOf l i < l.length) : at' l (endOf l i) = 22 := by
  unfold endOf at he ⊢
  cases hc : clo (l.drop (i + 1)) 0 with
  | none => rw [hc] at he; simp at he
  | some e =>
    have := clo_get _ _ _ hc
    rw [List.getElem?_drop] at this
    simp only
    unfold at'
    rw [List.getD_eq_getElem?_getD, this]
    rfl
theorem rd_m (l : List Int) (i : Nat) (hi : i < l.length) : rd (mAll l) (i : Int) = mAt l i := mAll_get l i hi
theorem nests_one (l : List Int) (i : Nat) (hi : i < l.length) : one l (mAll l) i := by
  unfold parquetrylaw10_BaseNests.one parquetrylaw10_BaseNests.opn parquetrylaw10_BaseNests.cls parquetrylaw10_BaseNests.inn
  rw [rd_at, rd_m l i hi]
  simp only [opB_ini]
  refine ⟨fun h1 h2 => ?_, fun h1 => ?_, fun h1 h2 => ?_⟩
  · unfold mAt
    rw [h1, if_neg (by decide), if_neg h2]
  · have he : mAt l i = (endOf l i : Int) := by unfold mAt; rw [if_pos h1]
    have g1 := endOf_gt l i hi
    have g2 := endOf_le l i
    rw [he]
    refine ⟨by omega, by omega, fun h3 => ?_, fun k hk h3 h4 => ?_⟩
    · have h22 := end_22 l i hi (by omega)
      have hh := (end_iff l (endOf l i) i (by omega) g1 h22 h1).1 rfl
      rw [rd_m l _ (by omega), rd_at]
      refine ⟨?_, h22⟩
      unfold mAt
      rw [h22, if_neg (by decide), if_pos rfl, hh]
    · rw [rd_at, rd_m l k hk]
      have hin := open_of l k i hk (by omega) h1 (by omega)
      refine ⟨fun h5 => ?_, fun h5 => ?_⟩
      · have hek : mAt l k = (endOf l k : Int) := by unfold mAt; rw [if_pos h5]
        rw [hek]
        by_cases h6 : endOf l i < l.length
        · left
          have h22 := end_22 l i hi h6
          have hh := (end_iff l (endOf l i) i h6 g1 h22 h1).1 rfl
          by_cases h7 : endOf l k ≤ endOf l i
          · omega
          · have := ope_head l _ k i (open_of l (endOf l i) k h6 (by omega) h5 (by omega)) hh
            omega
        · right
          omega
      · have hm : mAt l k = (match (ope l k).head? with | some j => (j : Int) | none => -1) := by
          unfold mAt
          rw [h5, if_neg (by decide), if_pos rfl]
          cases (ope l k).head? <;> rfl
        rw [hm]
        cases hh : (ope l k).head? with
        | none =>
          cases ho : ope l k with
          | nil => rw [ho] at hin; simp at hin
          | cons x r => rw [ho] at hh; simp at hh
        | some j =>
          have h6 := ope_head l k i j hin hh
          simp only
          by_cases h7 : j = i
          · subst h7
            have := (end_iff l k j hk (by omega) h5 h1).2 hh
            omega
          · omega
  · have hm : mAt l i = (match (ope l i).head? with | some j => (j : Int) | none => -1) := by
      unfold mAt
      rw [h1, if_neg (by decide), if_pos h2]
      cases (ope l i).head? <;> rfl
    rw [hm]
    cases hh : (ope l i).head? with
    | none => exact ⟨by simp, by simp only; omega, fun h => by simp only at h; omega⟩
    | some j =>
      have hmem : j ∈ ope l i := List.mem_of_mem_head? hh
      have hlt := ope_lt l i (by omega) j hmem
      have hj := ope_ini l i (by omega) j hmem
      simp only
      refine ⟨by omega, by omega, fun _ => ?_⟩
      rw [rd_m l j (by omega)]
      unfold mAt
      rw [if_pos hj, (end_iff l i j hi hlt h2 hj).2 hh]
theorem BaseNests : parquetrylaw10_BaseNests.Pure := by
  intro l h1 h2 h3
  refine Ev.ex ?_
  unfold parquetrylaw10_BaseNests.f
  by_cases h : (l.length : Int) > 150
  · exact Ev.ifp h awake_ev
  · refine Ev.ifn h (Ev.bind (match_ev l (by omega)) (Ev.ifp ⟨mAll_len l, fun i hi => nests_one l i hi⟩ ?_))
    unfold parquetrylaw10_BaseNests.aw
    exact Ev.bind awake_ev (Ev.ifp rfl (Ev.now _))
end Go.Proofs.Ytekllnpmioinfaa.Pure
