/- What base.Match and base.Level tell, for chapter 11. Conditions: at most 10^6 classes. -/
import Derived.Test.YtdieknpikdepgaaPC12x1
import Derived.Test.YtdieknpikdepgaaHIso
import Derived.Test.YtdieknpikdepgaaHRnd
namespace Go.Proofs.Ytdieknpikdepgaa.PC12
open Go.RowKit Go.Proofs.YtdieknpikdepgaaW.PrintWords Go.Proofs.YtdieknpikdepgaaW.PrintLast Go.Proofs.YtdieknpikdepgaaW.PrintMore Go.Proofs.YtdieknpikdepgaaH
set_option linter.unusedVariables false
set_option linter.unusedSimpArgs false

theorem opens_eq (c : Int) : base_opens.f c = some (ini c) := by
  unfold base_opens.f ini
  by_cases h1 : c = 19
  · simp [h1]
  · by_cases h2 : c = 20
    · simp [h2]
    · by_cases h3 : c = 21
      · simp [h3]
      · simp [h1, h2, h3]
def up (o : List Nat) : List Int := o.reverse.map fun (k : Nat) => (k : Int)
theorem up_cons (a : Nat) (t : List Nat) : up (a :: t) = up t ++ [(a : Int)] := by simp [up]
theorem rd_at (l : List Int) (i : Nat) : rd l (i : Int) = at' l i := rfl
theorem rd_last (u : List Int) (a : Int) : rd (u ++ [a]) (((u ++ [a]).length : Int) - 1) = a := by
  have := rd_mid u a []
  rw [show (((u ++ [a]).length : Int) - 1) = (u.length : Int) from by simp]
  exact this
theorem match_l0 (l : List Int) (hl : l.length < 1000000) : ∀ (s p : Nat) (out : List Int), p + s = l.length → out.length = l.length → (∀ i, i < p → at' out i = mP l p i) → Ev (fun k => base_Match.l0 k l out (up (ope l p)) l (l.length : Int) (p : Int)) (mAll l)
  | 0, p, out, hp, ho, hm => by
    refine Ev.succ ?_
    simp only [base_Match.l0]
    refine Ev.ifn (by omega) (Ev.val (Ev.now _) ?_)
    apply List.ext_getElem
    · rw [ho, mAll_len]
    · intro i h1 h2
      have h3 := hm i (by omega)
      have h4 := mAll_get l i (by omega)
      obtain rfl : p = l.length := by omega
      rw [mP_all] at h3
      unfold at' at h3
      rw [← h3, List.getD_eq_getElem?_getD, List.getD_eq_getElem?_getD, List.getElem?_eq_getElem h1, List.getElem?_eq_getElem h2] at h4
      exact h4.symm
  | s + 1, p, out, hp, ho, hm => by
    have hpl : p < l.length := by omega
    have hol := ope_len l p
    have hul : (up (ope l p)).length = (ope l p).length := by simp [up]
    have hset : ∀ (o : List Int) (q : Nat) (v : Int) (i : Nat), q < o.length → at' (o.set q v) i = if i = q then v else at' o i := fun o q v i hq => by
      unfold at'
      rw [List.getD_eq_getElem?_getD, List.getElem?_set, List.getD_eq_getElem?_getD]
      by_cases e : q = i
      · subst e
        rw [if_pos rfl, if_pos rfl, if_pos hq]
        rfl
      · rw [if_neg e, if_neg (fun h => e h.symm)]
    have hnew := mP_new l p hpl
    have hold := fun i hi => mP_succ l p i hpl hi
    have hos := ope_succ l p hpl
    have e1 : wrap64 ((p : Int) + 1) = ((p + 1 : Nat) : Int) := by rw [w64 (by omega) (by omega)]; omega
    refine Ev.succ ?_
    simp only [base_Match.l0]
    rw [rd_at, e1]
    simp only [Int.toNat_natCast]
    refine Ev.ifp (by omega) (Ev.ifp (by omega) (Ev.ifp (by omega) (Ev.ifp (by omega) (Ev.bindc rfl (Ev.bindc (opens_eq _) ?_)))))
    by_cases hi : ini (at' l p) = true
    · rw [if_pos hi] at hnew hos
      refine Ev.ifp hi (Ev.ifp (by omega) ?_)
      rw [List.set_set, ← up_cons, ← hos]
      refine match_l0 l hl s (p + 1) _ (by omega) (by simp [ho]) (fun i h => ?_)
      rw [hset _ _ _ _ (by omega)]
      by_cases e : i = p
      · subst e
        rw [if_pos rfl, hnew]
      · rw [if_neg e, hold i (by omega), if_neg (fun h => ini_ne hi h.1)]
        exact hm i (by omega)
    · rw [if_neg hi] at hnew hos
      refine Ev.ifn hi ?_
      by_cases h22 : at' l p = 22
      · rw [if_pos h22] at hnew hos
        refine Ev.ifp h22 ?_
        cases ho2 : ope l p with
        | nil =>
          rw [ho2] at hnew hos
          refine Ev.ifn (by simp [up]) ?_
          rw [show up ([] : List Nat) = up (ope l (p + 1)) from by rw [hos]; rfl]
          refine match_l0 l hl s (p + 1) _ (by omega) (by simp [ho]) (fun i h => ?_)
          rw [hset _ _ _ _ (by omega)]
          by_cases e : i = p
          · subst e
            rw [if_pos rfl, hnew]
            rfl
          · rw [if_neg e, hold i (by omega), ho2, if_neg (fun h => by simp at h)]
            exact hm i (by omega)
        | cons a t =>
          rw [ho2] at hnew hos hul hol
          have ha : a < p := ope_lt l p (by omega) a (by rw [ho2]; simp)
          have hrl := rd_last (up t) (a : Int)
          rw [up_cons] at hul ⊢
          simp only [List.length_cons] at hul hol
          rw [w64 (x := ((up t ++ [(a : Int)]).length : Int) - 1) (by omega) (by omega), hrl, Int.toNat_natCast]
          refine Ev.ifp (by omega) (Ev.ifp (by omega) (Ev.ifp (by omega) (Ev.ifp (by omega) (Ev.ifp (by omega) (Ev.ifp (by omega) ?_)))))
          rw [List.set_set, show (up t ++ [(a : Int)]).take (((up t ++ [(a : Int)]).length : Int) - 1).toNat = up t from by
            rw [show (((up t ++ [(a : Int)]).length : Int) - 1).toNat = (up t).length from by simp, List.take_left]]
          rw [show up t = up (ope l (p + 1)) from by rw [hos]; rfl]
          refine match_l0 l hl s (p + 1) _ (by omega) (by simp [ho]) (fun i h => ?_)
          rw [hset _ _ _ _ (by simp; omega), hset _ _ _ _ (by omega)]
          by_cases e : i = p
          · subst e
            rw [if_neg (by omega), if_pos rfl, hnew]
            rfl
          · rw [if_neg e, hold i (by omega), ho2]
            by_cases e2 : i = a
            · subst e2
              rw [if_pos rfl, if_pos ⟨h22, rfl⟩]
            · rw [if_neg e2, if_neg (fun h => e2 (by simpa using h.2.symm))]
              exact hm i (by omega)
      · rw [if_neg h22] at hnew hos
        refine Ev.ifn h22 ?_
        rw [← hos]
        refine match_l0 l hl s (p + 1) _ (by omega) (by simp [ho]) (fun i h => ?_)
        rw [hset _ _ _ _ (by omega)]
        by_cases e : i = p
        · subst e
          rw [if_pos rfl, hnew]
        · rw [if_neg e, hold i (by omega), if_neg (fun h => h22 h.1)]
          exact hm i (by omega)
theorem match_ev (l : List Int) (hl : l.length < 1000000) : Ev (fun k => base_Match.f k l) (mAll l) := by
  unfold base_Match.f
  refine Ev.ifp (by omega) (Ev.ifp (by omega) ?_)
  rw [Int.toNat_natCast]
  exact match_l0 l hl l.length 0 _ (by omega) (by simp) (fun i h => by omega)
theorem level_l0 (l : List Int) (hl : l.length < 1000000) : ∀ (s i : Nat), l.length < i + s → i ≤ l.length + 1 → Ev (fun k => base_Level.l0 k l (mAll l) (i : Int)) (lev (l.drop i) 0)
  | 0, i, hs, hi => by
    refine Ev.succ ?_
    simp only [base_Level.l0]
    refine Ev.ifn (by omega) (Ev.val (Ev.now _) ?_)
    rw [List.drop_of_length_le (by omega)]
    rfl
  | s + 1, i, hs, hi => by
    refine Ev.succ ?_
    simp only [base_Level.l0]
    by_cases h : i < l.length
    · rw [rd_at]
      have hme := mAll_get l i h
      have hml := mAll_len l
      refine Ev.ifp (by omega) (Ev.ifp (by omega) ?_)
      have hd := drop_at l i h
      by_cases c0 : at' l i = 0
      · exact Ev.ifp c0 (Ev.val (Ev.now _) (by rw [hd, c0]; rfl))
      · refine Ev.ifn c0 ?_
        by_cases c1 : at' l i = 1
        · exact Ev.ifp c1 (Ev.val (Ev.now _) (by rw [hd, c1]; rfl))
        · refine Ev.ifn c1 ?_
          by_cases c2 : at' l i = 2
          · exact Ev.ifp c2 (Ev.val (Ev.now _) (by rw [hd, c2]; rfl))
          · refine Ev.ifn c2 (Ev.bindc (opens_eq _) ?_)
            by_cases hi2 : ini (at' l i) = true
            · have h1 := endOf_gt l i h
              have h2 := endOf_le l i
              have ih := level_l0 l hl s (endOf l i + 1) (by omega) (by omega)
              rw [show rd (mAll l) (i : Int) = (endOf l i : Int) from by rw [rd_at]; unfold at'; rw [hme]; unfold mAt; rw [if_pos hi2], w64 (by omega) (by omega), show (endOf l i : Int) + 1 = ((endOf l i + 1 : Nat) : Int) from by omega, lev_end l i h hi2]
              exact Ev.ifp hi2 (Ev.ifp (by omega) ih)
            · have ih := level_l0 l hl s (i + 1) (by omega) (by omega)
              rw [w64 (x := (i : Int) + 1) (by omega) (by omega), show (i : Int) + 1 = ((i + 1 : Nat) : Int) from by omega]
              refine Ev.ifn hi2 (Ev.val ih ?_)
              rw [hd]
              conv => rhs; unfold lev
              rw [if_neg c0, if_neg c1, if_neg c2, if_neg hi2]
    · refine Ev.ifn (by omega) (Ev.val (Ev.now _) ?_)
      rw [List.drop_of_length_le (by omega)]
      rfl
theorem level_ev (l : List Int) (hl : l.length < 1000000) : Ev (fun k => base_Level.f k l) (lev l 0) := by
  unfold base_Level.f
  exact Ev.bind (match_ev l hl) (level_l0 l hl (l.length + 1) 0 (by omega) (by omega))
end Go.Proofs.Ytdieknpikdepgaa.PC12
