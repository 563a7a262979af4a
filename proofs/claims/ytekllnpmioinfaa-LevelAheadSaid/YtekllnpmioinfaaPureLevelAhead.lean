/- LevelAhead: what comes behind changes nothing of what stands ahead, as long as there is no FSI there (the pure statement over the printed Lean functions). Conditions: those of the statement. -/
import Derived.Test.YtekllnpmioinfaaPC11x8
import Derived.Test.YtekllnpmioinfaaHL11
namespace Go.Proofs.Ytekllnpmioinfaa.Pure
open Go.RowKit Go.Proofs.Ytekllnpmioinfaa.PC11 Go.Proofs.YtekllnpmioinfaaW.PrintWords Go.Proofs.YtekllnpmioinfaaW.PrintLast Go.Proofs.YtekllnpmioinfaaH
set_option linter.unusedVariables false

theorem at_app (a c : List Int) (i : Nat) (hi : i < a.length) : at' (a ++ c) i = at' a i := by
  unfold at'
  rw [List.getD_eq_getElem?_getD, List.getD_eq_getElem?_getD, List.getElem?_append_left hi]
theorem sat_app (a c : List Int) (b : Int) (h : ∀ i, i < a.length → at' a i ≠ 21) : ∀ i, i ≤ a.length → sat (a ++ c) b i = sat a b i
  | 0, _ => rfl
  | i + 1, hi => by
    have ih := sat_app a c b h i (by omega)
    show s2v (a ++ c) i (level_Explicit.s1 (sat (a ++ c) b i) (at' (a ++ c) i)) = s2v a i (level_Explicit.s1 (sat a b i) (at' a i))
    rw [ih, at_app a c i (by omega)]
    unfold s2v
    rw [at_app a c i (by omega), if_neg (c := at' a i = 21) (h i (by omega)), if_neg (c := at' a i = 21) (h i (by omega))]
theorem lv_app (a c : List Int) (b : Int) (h : ∀ i, i < a.length → at' a i ≠ 21) (i : Nat) (hi : i < a.length) : lv (a ++ c) b i = lv a b i ∧ tv (a ++ c) b i = tv a b i := by
  unfold lv tv
  rw [sat_app a c b h i (by omega), at_app a c i hi]
  exact ⟨rfl, rfl⟩
theorem ahead_l1 (a c : List Int) (ha : a.length ≤ 500) (b : Int) (h : ∀ i, i < a.length → at' a i ≠ 21) : ∀ n i, i + n = a.length → Ev (fun k => parquetrylaw11_LevelAhead.l1 k a ((List.range a.length).map (lv a b)) ((List.range a.length).map (tv a b)) ((List.range (a ++ c).length).map (lv (a ++ c) b)) ((List.range (a ++ c).length).map (tv (a ++ c) b)) (i : Int)) true
  | 0, i, hi => by
    refine Ev.succ ?_
    simp only [parquetrylaw11_LevelAhead.l1, List.length_map, List.length_range]
    exact Ev.ifn (by omega) (Ev.bind awake_ev (Ev.now _))
  | n + 1, i, hi => by
    have ih := ahead_l1 a c ha b h n (i + 1) (by omega)
    have h1 : i < a.length := by omega
    have h2 : i < (a ++ c).length := by rw [List.length_append]; omega
    have e1 : wrap64 ((i : Int) + 1) = ((i + 1 : Nat) : Int) := by rw [w64 (by omega) (by omega)]; omega
    obtain ⟨e2, e3⟩ := lv_app a c b h i h1
    refine Ev.succ ?_
    simp only [parquetrylaw11_LevelAhead.l1, List.length_map, List.length_range]
    rw [e1, rd_map _ _ _ h1, rd_map _ _ _ h2, rd_map _ _ _ h1, rd_map _ _ _ h2]
    exact Ev.ifp (by omega) (Ev.ifp (by omega) (Ev.ifp (by omega) (Ev.ifp (by omega) (Ev.ifp e2.symm (Ev.ifp (by omega) (Ev.ifp (by omega) (Ev.ifp e3.symm ih)))))))
theorem ahead_l0 (a c : List Int) (ha : a.length ≤ 500) (hc : c.length ≤ 500) (x : Int) : ∀ n i, i + n = a.length → (∀ j, j < i → at' a j ≠ 21) → Ev (fun k => parquetrylaw11_LevelAhead.l0 k a c x (i : Int)) true
  | 0, i, hi, h => by
    obtain rfl : i = a.length := by omega
    have hb := and_one x
    have hac : (a ++ c).length = a.length + c.length := List.length_append
    refine Ev.succ ?_
    simp only [parquetrylaw11_LevelAhead.l0]
    refine Ev.ifn (by omega) ?_
    refine Ev.bind (explicit_ev a (by omega) _ hb) ?_
    simp only [Option.bind_some, List.nil_append, List.length_nil]
    refine Ev.ifp (by omega) (Ev.ifp (by omega) ?_)
    refine Ev.bind (explicit_ev (a ++ c) (by omega) _ hb) ?_
    simp only [List.length_map, List.length_range]
    rw [w64 (by omega) (by omega)]
    refine Ev.ifp trivial (Ev.ifp trivial (Ev.ifp (by omega) ?_))
    refine Ev.succ ?_
    simp only [parquetrylaw11_LevelAhead.j2]
    refine Ev.ifn (by simp) ?_
    exact ahead_l1 a c ha _ h a.length 0 (by omega)
  | n + 1, i, hi, h => by
    have ih := ahead_l0 a c ha hc x n (i + 1) (by omega)
    have e1 : wrap64 ((i : Int) + 1) = ((i + 1 : Nat) : Int) := by rw [w64 (by omega) (by omega)]; omega
    refine Ev.succ ?_
    simp only [parquetrylaw11_LevelAhead.l0]
    rw [rd_at, e1]
    refine Ev.ifp (by omega) (Ev.ifp (by omega) ?_)
    by_cases h21 : at' a i = 21
    · exact Ev.ifp h21 (Ev.bind awake_ev (Ev.now _))
    · refine Ev.ifn h21 (ih (fun j hj => ?_))
      by_cases e : j = i
      · rw [e]; exact h21
      · exact h j (by omega)
theorem LevelAhead : parquetrylaw11_LevelAhead.Pure := by
  intro l0 l1 a2 _ _ _ _ _ _ _
  refine Ev.ex (g := fun k => parquetrylaw11_LevelAhead.f k l0 l1 a2) ?_
  unfold parquetrylaw11_LevelAhead.f
  by_cases h1 : (l0.length : Int) > 500
  · refine Ev.ifp h1 (Ev.succ ?_)
    simp only [parquetrylaw11_LevelAhead.j0]
    exact Ev.ifp trivial (Ev.bind awake_ev (Ev.now _))
  · refine Ev.ifn h1 (Ev.succ ?_)
    simp only [parquetrylaw11_LevelAhead.j0]
    by_cases h2 : (l1.length : Int) > 500
    · exact Ev.ifp (decide_eq_true h2) (Ev.bind awake_ev (Ev.now _))
    · refine Ev.ifn (by rw [decide_eq_false h2]; decide) ?_
      exact ahead_l0 l0 l1 (by omega) (by omega) a2 l0.length 0 (by omega) (fun j hj => absurd hj (Nat.not_lt_zero _))

end Go.Proofs.Ytekllnpmioinfaa.Pure
