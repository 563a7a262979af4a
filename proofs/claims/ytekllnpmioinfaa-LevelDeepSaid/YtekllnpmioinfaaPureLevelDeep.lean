/- LevelDeep: levels are from the paragraph's to 125, or -1 just for what is removed (the pure statement over the printed Lean functions). Conditions: those of the statement. -/
import Derived.Test.YtekllnpmioinfaaPC11x7
import Derived.Test.YtekllnpmioinfaaHL11
namespace Go.Proofs.Ytekllnpmioinfaa.Pure
open Go.RowKit Go.Proofs.Ytekllnpmioinfaa.PC11 Go.Proofs.YtekllnpmioinfaaW.PrintWords Go.Proofs.YtekllnpmioinfaaW.PrintLast Go.Proofs.YtekllnpmioinfaaH
set_option linter.unusedVariables false

theorem see_made {b : Int} {i : Nat} {s : level_Explicit.S} (h : PC11.Good b i s) (c : Int) : level_Explicit.see s c = c ∨ level_Explicit.see s c = 0 ∨ level_Explicit.see s c = 1 := by
  unfold level_Explicit.see
  by_cases h1 : (level_Explicit.top s).f1 = -1
  · rw [if_pos h1]
    exact .inl rfl
  · rw [if_neg h1]
    exact .inr (((h.all _ h.top).2.2).resolve_left h1)
theorem tv_made (l : List Int) (b : Int) (hb : b ≤ 125) (i : Nat) : tv l b i = at' l i ∨ tv l b i = 0 ∨ tv l b i = 1 := by
  have g := PC11.Good.sat l hb i
  have h1 := see_made g (at' l i)
  have h2 := see_made g.pdi (at' l i)
  unfold tv level_Explicit.as1
  repeat (first | exact h1 | exact h2 | exact .inl rfl | split)
theorem tv_gone (l : List Int) (b : Int) (i : Nat) (h : gone (at' l i) = true) : tv l b i = at' l i := by
  have h0 : at' l i = 16 ∨ at' l i = 14 ∨ at' l i = 17 ∨ at' l i = 15 ∨ at' l i = 18 ∨ at' l i = 9 := by simpa [gone] using h
  unfold tv level_Explicit.as1
  generalize at' l i = c at *
  split
  · rfl
  split
  · rfl
  split
  · rfl
  split
  · rfl
  split
  · rfl
  split
  · rfl
  rw [if_neg (by omega), if_pos (by omega)]
theorem lv_made (l : List Int) (b : Int) (hb : b ≤ 125) (i : Nat) (h : ¬ (gone (at' l i) = true)) : b ≤ lv l b i ∧ lv l b i ≤ 125 := by
  have g := PC11.Good.sat l hb i
  have h1 := g.all _ g.top
  have h2 := g.pdi.all _ g.pdi.top
  unfold lv level_Explicit.at1
  rw [if_neg h]
  split
  · exact ⟨Int.le_refl _, hb⟩
  split
  · exact ⟨h2.1, h2.2.1⟩
  · exact ⟨h1.1, h1.2.1⟩
theorem sat_plain (l : List Int) (b : Int) : ∀ i, (∀ j, j < i → at' l j < 14 ∨ 22 < at' l j) → sat l b i = ⟨0, 0, 0, [⟨b, -1, false⟩]⟩
  | 0, _ => rfl
  | i + 1, h => by
    have ih := sat_plain l b i (fun j hj => h j (by omega))
    have h0 := h i (by omega)
    show s2v l i (level_Explicit.s1 (sat l b i) (at' l i)) = _
    rw [s2v_not (fun hc => by have h3 : at' l i = 19 ∨ at' l i = 20 ∨ at' l i = 21 := by simpa [ini] using hc
                              omega), ih]
    unfold level_Explicit.s1
    rw [if_neg (by omega), if_neg (by omega), if_neg (by omega), if_neg (by omega), if_neg (by omega), if_neg (by omega)]
theorem plain_at (l : List Int) (b : Int) (i : Nat) (h : ∀ j, j < i → at' l j < 14 ∨ 22 < at' l j) (h0 : at' l i < 14 ∨ 22 < at' l i) (hg : ¬ (gone (at' l i) = true)) : lv l b i = b ∧ tv l b i = at' l i := by
  have h9 : at' l i ≠ 9 := fun e => hg (by rw [e]; rfl)
  unfold lv tv level_Explicit.at1 level_Explicit.as1
  rw [sat_plain l b i h, if_neg hg]
  constructor
  · split
    · rfl
    rw [if_neg (by omega)]
    rfl
  · split
    · rfl
    repeat (first | rfl | rw [if_neg (by omega)])
theorem plain_eq (c : Int) : parquetrylaw11_plain.f c = some (decide (c < 14 ∨ 22 < c)) := by
  unfold parquetrylaw11_plain.f
  by_cases h : c < 14
  · rw [if_pos h, decide_eq_true (Or.inl h)]
  · rw [if_neg h]
    congr 1
    rw [decide_eq_decide]
    constructor
    · exact fun h1 => .inr h1
    · exact fun h1 => h1.resolve_left h
theorem deep_l0 (l : List Int) (hl : l.length ≤ 1000) (b : Int) (hb0 : 0 ≤ b) (hb : b ≤ 125) : ∀ n i, i + n = l.length → ∀ x : Bool, (x = true → ∀ j, j < i → at' l j < 14 ∨ 22 < at' l j) → Ev (fun k => parquetrylaw11_LevelDeep.l0 k l b ((List.range l.length).map (lv l b)) ((List.range l.length).map (tv l b)) x (i : Int)) true
  | 0, i, hi, x, hx => by
    refine Ev.succ ?_
    simp only [parquetrylaw11_LevelDeep.l0]
    exact Ev.ifn (by omega) (Ev.bind awake_ev (Ev.now _))
  | n + 1, i, hi, x, hx => by
    have ih := deep_l0 l hl b hb0 hb n (i + 1) (by omega)
    have h1 : i < l.length := by omega
    have e1 : wrap64 ((i : Int) + 1) = ((i + 1 : Nat) : Int) := by rw [w64 (by omega) (by omega)]; omega
    have J : Ev (fun k => parquetrylaw11_LevelDeep.j2 k l b ((List.range l.length).map (lv l b)) ((List.range l.length).map (tv l b)) x (i : Int) (at' l i) (gone (at' l i)) false) true := by
      refine Ev.succ ?_
      simp only [parquetrylaw11_LevelDeep.j2, plain_eq, Option.bind_some, List.length_map, List.length_range]
      rw [e1, rd_map _ _ _ h1, rd_map _ _ _ h1]
      refine Ev.ifn (by decide) ?_
      by_cases hxt : x = true
      · refine Ev.ifp hxt ?_
        by_cases hp : at' l i < 14 ∨ 22 < at' l i
        · have hall : ∀ j, j < i + 1 → at' l j < 14 ∨ 22 < at' l j := fun j hj => by
            by_cases e : j = i
            · rw [e]; exact hp
            · exact hx hxt j (by omega)
          rw [decide_eq_true hp]
          refine Ev.ifp rfl ?_
          by_cases hg : gone (at' l i) = true
          · exact Ev.ifp hg (ih true (fun _ => hall))
          · obtain ⟨e2, e3⟩ := plain_at l b i (hx hxt) hp hg
            exact Ev.ifn hg (Ev.ifp (by omega) (Ev.ifp (by omega) (Ev.ifp e2 (Ev.ifp (by omega) (Ev.ifp e3 (ih true (fun _ => hall)))))))
        · rw [decide_eq_false hp]
          exact Ev.ifn (by decide) (ih false (fun h => absurd h (by decide)))
      · exact Ev.ifn hxt (ih false (fun h => absurd h (by decide)))
    refine Ev.succ ?_
    simp only [parquetrylaw11_LevelDeep.l0, removed_eq, Option.bind_some, List.length_map, List.length_range]
    rw [rd_map _ _ _ h1, rd_map _ _ _ h1, rd_at]
    refine Ev.ifp (by omega) (Ev.ifp (by omega) (Ev.ifp (by omega) ?_))
    by_cases hg : gone (at' l i) = true
    · have e2 : lv l b i = -1 := by unfold lv; rw [if_pos hg]
      have e3 := tv_gone l b i hg
      have h10 : at' l i ≠ 10 := fun e => by rw [e] at hg; exact absurd hg (by decide)
      refine Ev.ifn (by rw [hg, e2]; decide) ?_
      exact Ev.ifp hg (Ev.ifn h10 (Ev.ifp (by omega) (Ev.ifp e3 J)))
    · obtain ⟨h2, h3⟩ := lv_made l b hb i hg
      have e2 : (lv l b i == -1) = false := beq_eq_false_iff_ne.2 (by omega)
      refine Ev.ifn (by rw [e2, Bool.eq_false_iff.2 hg]; decide) ?_
      refine Ev.ifn hg (Ev.ifn (by omega) (Ev.ifn (by omega) ?_))
      by_cases h10 : at' l i = 10
      · have e3 : lv l b i = b := by
          unfold lv level_Explicit.at1
          rw [if_neg hg, if_pos h10]
        have e4 : tv l b i = at' l i := by
          unfold tv level_Explicit.as1
          rw [if_pos h10]
        exact Ev.ifp h10 (Ev.ifp e3 (Ev.ifp (by omega) (Ev.ifp e4 J)))
      · refine Ev.ifn h10 (Ev.ifp (by omega) ?_)
        by_cases e4 : tv l b i = at' l i
        · exact Ev.ifp e4 J
        · refine Ev.ifn e4 ?_
          by_cases e5 : tv l b i = 0
          · exact Ev.ifp e5 J
          · refine Ev.ifn e5 ?_
            have e6 : tv l b i = 1 := ((tv_made l b hb i).resolve_left e4).resolve_left e5
            rw [e6]
            exact J
theorem LevelDeep : parquetrylaw11_LevelDeep.Pure := by
  intro l0 a1 _ _ _ _
  refine Ev.ex (g := fun k => parquetrylaw11_LevelDeep.f k l0 a1) ?_
  unfold parquetrylaw11_LevelDeep.f
  by_cases h1 : (l0.length : Int) > 1000
  · exact Ev.ifp h1 (Ev.bind awake_ev (Ev.now _))
  · refine Ev.ifn h1 ?_
    have hb := and_one a1
    refine Ev.bind (explicit_ev l0 (by omega) _ hb) ?_
    simp only [List.length_map, List.length_range]
    refine Ev.ifp trivial (Ev.succ ?_)
    simp only [parquetrylaw11_LevelDeep.j0]
    refine Ev.ifn (by simp) ?_
    exact deep_l0 l0 (by omega) _ (by omega) (by omega) l0.length 0 (by omega) true (fun _ j hj => absurd hj (Nat.not_lt_zero _))

end Go.Proofs.Ytekllnpmioinfaa.Pure
