/- WrapWide: a wrapped line takes at most w slots, or is one cluster; it would take more with the word that stands first behind it; where all fits there is one line (the pure statement over the printed Lean functions). Conditions: those of the statement. -/
import Derived.Test.YtieffcjbbhigbaaPC17x19
import Derived.Test.YtieffcjbbhigbaaHG17
import Derived.Test.YtieffcjbbhigbaaHZ17
namespace Go.Proofs.Ytieffcjbbhigbaa.Pure
open Go.RowKit Go.Proofs.Ytieffcjbbhigbaa.PC17 Go.Proofs.YtieffcjbbhigbaaW.PrintWords Go.Proofs.YtieffcjbbhigbaaW.PrintLast Go.Proofs.YtieffcjbbhigbaaH
set_option linter.unusedVariables false
theorem cut_eq (l : List CL) (n fr sh : Nat) (h1 : sh ≤ n) : (l.take sh).drop fr = ((l.take n).drop fr).take (sh - fr) := by
  rw [← List.drop_take, List.take_take, Nat.min_eq_left (by omega)]
/-- Do the clusters between take more? Just if they are not over where it fits. -/
theorem more_cut (l : List CL) (hl : l.length ≤ 200) (w : Int) (h0 : -9223372036854775808 ≤ w) (h1 : w ≤ 9223372036854775807) (n fr sh : Nat) (hn : n ≤ l.length) (hs : sh ≤ n) (hf : fr ≤ sh) : Ev (fun k => parquetryref17_More.f k ((l.take sh).drop fr) w) (decide (fr + fitA ((l.take n).drop fr) w < sh)) := by
  have hlen : ((l.take sh).drop fr).length = sh - fr := by rw [List.length_drop, List.length_take]; omega
  have key := more_ev ((l.take sh).drop fr) w (by rw [hlen]; omega) h0 h1
  rw [hlen, cut_eq l n fr sh hs, fitA_take] at key
  rw [cut_eq l n fr sh hs]
  refine Ev.val key (decide_eq_decide.2 ?_)
  omega
theorem we_ev (l : List CL) (hl : l.length ≤ 200) (n : Nat) (hn : n ≤ l.length) : ∀ d e, e + d = n → ∃ q : Nat, Ev (fun k => parquetrylaw17_WrapWide.we k l (n : Int) (e : Int)) (q : Int) ∧ e ≤ q ∧ q ≤ n ∧ (q < n → bk l q = true) := by
  intro d
  induction d with
  | zero =>
    intro e he
    refine ⟨e, Ev.succ ?_, Nat.le_refl _, by omega, fun h => by omega⟩
    simp only [parquetrylaw17_WrapWide.we]
    exact Ev.ifn (by omega) (Ev.now _)
  | succ d ih =>
    intro e he
    cases hb : bk l e
    · obtain ⟨q, h1, h2, h3, h4⟩ := ih (e + 1) (by omega)
      refine ⟨q, Ev.succ ?_, by omega, h3, h4⟩
      simp only [parquetrylaw17_WrapWide.we]
      unfold bk at hb
      refine Ev.ifp (by omega) (Ev.ifp (by omega) (Ev.ifn (by rw [hb]; decide) ?_))
      rw [show (e : Int) + 1 = ((e + 1 : Nat) : Int) from by omega]
      exact h1
    · refine ⟨e, Ev.succ ?_, Nat.le_refl _, by omega, fun _ => hb⟩
      simp only [parquetrylaw17_WrapWide.we]
      unfold bk at hb
      exact Ev.ifp (by omega) (Ev.ifp (by omega) (Ev.ifp hb (Ev.now _)))
/-- A line fits, or is one cluster. -/
theorem fits_or {l : List CL} {w : Int} {fr : Nat} {r : Nat × Nat} (h : Step l w fr r) (hf : fr < l.length) : ¬ (fr + fitA (l.drop fr) w < r.2) ∨ r.2 = fr + 1 := by
  rcases h with ⟨h1, rfl⟩ | ⟨h1, o, h2, rfl⟩
  · exact .inl (by simp only; omega)
  · cases o with
    | none => simp only [endV]; omega
    | some i =>
      obtain ⟨g1, g2, _, _⟩ := h2
      have k1 := rs_le l i
      exact .inl (by simp only [endV]; omega)
/-- With the word that stands first behind it, it would take more. -/
theorem word_more {l : List CL} {w : Int} {fr : Nat} {r : Nat × Nat} (h : Step l w fr r) (hf : fr < l.length) (hr : r.1 < l.length) (q : Nat) (h1 : r.1 + 1 ≤ q) (h2 : q ≤ l.length) (hq : q < l.length → bk l q = true) : fr + fitA (l.drop fr) w < q := by
  rcases h with ⟨g1, rfl⟩ | ⟨g1, o, g2, rfl⟩
  · simp only at hr; omega
  · cases o with
    | none => simp only [endV] at h1; omega
    | some i =>
      obtain ⟨k1, k2, ⟨k3, j, k4, k5, k6⟩, k7⟩ := g2
      obtain ⟨m1, _, _, _⟩ := re_at l (i + 1) (by omega)
      rw [← re_yes l i (by omega) k3] at m1
      simp only [endV] at h1
      refine Nat.lt_of_not_le fun hle => ?_
      exact k7 q (by omega) hle ⟨hq (by omega), j, k4, by omega, k6⟩
theorem wide_wrapped (l : List CL) (hl : l.length ≤ 200) (n : Nat) (hn : n ≤ l.length) (w : Int) (w0 : -9223372036854775808 ≤ w) (w1 : w ≤ 9223372036854775807) (x : List LN) (hx : x.length ≤ 1000) : ∀ (r pre : List LN) (fr : Nat), x = pre ++ fixL (l.length : Int) r → LinesR (l.take n) w fr r → Ev (fun k => parquetrylaw17_WrapWide.wl k l w x (n : Int) (pre.length : Int)) true
  | [], _, _, _, h => h.elim
  | [y], pre, fr, he, ⟨hf, p, hp, h0, h1, h2, h4, h⟩ => by
    have hlen : (l.take n).length = n := by rw [List.length_take]; omega
    obtain ⟨b1, b2, b3, b4⟩ := step_bd hp hf
    have hfo := fits_or hp hf
    rw [fixL_last] at he
    have hxl : x.length = pre.length + 1 := by rw [he]; simp
    have hrd : rd_T29 x (pre.length : Int) = ⟨y.f0, (l.length : Int), y.f2, y.f3, y.f4⟩ := by rw [he]; exact rd_ln pre _ []
    have key := more_cut l hl w w0 w1 n fr p.2 hn (by omega) b3
    refine Ev.succ ?_
    simp only [parquetrylaw17_WrapWide.wl]
    rw [hrd]
    simp only
    rw [h0, h2, Int.toNat_natCast, Int.toNat_natCast]
    refine Ev.ifp (by omega) (Ev.ifp (by omega) (Ev.bind key (Ev.ifp ?_ (Ev.ifp (by omega) awake_ev))))
    rcases hfo with h5 | h5
    · exact .inl (decide_eq_false h5)
    · exact .inr (by omega)
  | y :: z :: r, pre, fr, he, ⟨hf, p, hp, h0, h1, h2, h4, h⟩ => by
    have hlen : (l.take n).length = n := by rw [List.length_take]; omega
    obtain ⟨b1, b2, b3, b4⟩ := step_bd hp hf
    have hfo := fits_or hp hf
    rcases h with ⟨_, _, h⟩ | ⟨e1, h3, h⟩
    · cases h
    · rw [fixL_more] at he
      have hxl : x.length = pre.length + (r.length + 2) := by rw [he]; simp [fixL_len]
      have hrd : rd_T29 x (pre.length : Int) = y := by rw [he]; exact rd_ln pre _ _
      have ih := wide_wrapped l hl n hn w w0 w1 x hx (z :: r) (pre ++ [y]) p.1 (by rw [he]; simp) h
      have key := more_cut l hl w w0 w1 n fr p.2 hn (by omega) b3
      obtain ⟨q, q1, q2, q3, q4⟩ := we_ev l hl n hn (n - (p.1 + 1)) (p.1 + 1) (by omega)
      have hm := word_more hp hf (by omega) q q2 (by omega) (fun hq => by rw [bk_take l n q hn (by omega)]; exact q4 (by omega))
      have key2 := more_cut l hl w w0 w1 n fr q hn q3 (by omega)
      rw [decide_eq_true hm] at key2
      refine Ev.succ ?_
      simp only [parquetrylaw17_WrapWide.wl]
      rw [hrd, h0, h1, h2, Int.toNat_natCast, Int.toNat_natCast, show ((p.1 : Int) + 1) = ((p.1 + 1 : Nat) : Int) from by omega, show ((pre.length : Int) + 1) = (((pre ++ [y]).length : Nat) : Int) from by simp]
      refine Ev.ifp (by omega) (Ev.ifp (by omega) (Ev.bind key (Ev.ifp ?_ (Ev.ifn (by simp; omega) (Ev.bind q1 (Ev.ifp (by omega) ?_))))))
      · rcases hfo with h5 | h5
        · exact .inl (decide_eq_false h5)
        · exact .inr (by omega)
      · rw [Int.toNat_natCast]
        exact Ev.bind key2 (Ev.ifp rfl ih)
theorem WrapWide : parquetrylaw17_WrapWide.Pure := by
  intro l a1 _ _ _ hw
  refine Ev.ex ?_
  unfold parquetrylaw17_WrapWide.f
  obtain ⟨w0, w1⟩ := wf_i64 hw
  have hs := shown_le l
  by_cases hl : (l.length : Int) > 200 ∨ a1 < 1
  · exact Ev.ifp hl awake_ev
  · obtain ⟨ys, hy1, hy2⟩ := lines_ev l a1 1 (by omega) w0 w1
    have hlen : (l.take (shownN l)).length = shownN l := by rw [List.length_take]; omega
    have hm := more_ev (l.take (shownN l)) a1 (by omega) w0 w1
    have hmx : mx a1 1 = a1 := by
      rw [mx_def]
      split <;> omega
    refine Ev.ifn hl (Ev.bind hy1 (Ev.bindc (shown_eq l (by omega)) ?_))
    rw [Int.toNat_natCast]
    unfold LinesOK at hy2
    split at hy2
    · rename_i hc
      have h0 : shownN l = 0 := hc.resolve_left (by decide)
      subst hy2
      refine Ev.ifp ⟨by omega, by omega, by simp⟩ (Ev.bind hm (Ev.ifp (.inr rfl) (Ev.succ ?_)))
      have key := more_ev [] a1 (by simp) w0 w1
      simp only [parquetrylaw17_WrapWide.wl]
      refine Ev.ifp (by simp) (Ev.ifp ?_ (Ev.bind ?_ (Ev.ifp (.inl rfl) (Ev.ifp (by simp) awake_ev))))
      · rw [h0]
        exact ⟨by decide, Int.le_refl 0, Int.le_refl 0, by show (0 : Int) ≤ _; omega, by show (l.length : Int) ≤ _; omega, by show (0 : Int) ≤ (l.length : Int); omega⟩
      · rw [h0]
        exact key
    · obtain ⟨zs, hz1, hz2, hz3, rfl⟩ := hy2
      rw [hmx] at hz1
      refine Ev.ifp ⟨by omega, by omega, by rw [fixL_len]; omega⟩ (Ev.bind hm (Ev.ifp ?_ (wide_wrapped l (by omega) (shownN l) hs a1 w0 w1 _ (by rw [fixL_len]; omega) zs [] 0 rfl hz1)))
      by_cases c : fitA (l.take (shownN l)) a1 < (l.take (shownN l)).length
      · exact .inl (decide_eq_true c)
      · refine .inr ?_
        rw [fixL_len]
        have hle := fitA_le (l.take (shownN l)) a1
        cases zs with
        | nil => exact hz1.elim
        | cons y r =>
          obtain ⟨_, p, hp, _, _, _, _, h⟩ := hz1
          rcases h with ⟨_, _, rfl⟩ | ⟨e1, _, _⟩
          · rfl
          · rcases hp with ⟨_, rfl⟩ | ⟨g, _⟩
            · simp only at e1; omega
            · rw [List.drop_zero] at g
              omega
end Go.Proofs.Ytieffcjbbhigbaa.Pure
