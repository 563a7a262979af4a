/- RunesPlaces: runes.Place tells the place of the rune that begins at any byte of any text, or that none does (the pure statement over the printed Lean functions). Conditions: those of the statement. -/
import Derived.Test.YtdelmgoapdajpaaPC01x6
import Derived.Test.YtdelmgoapdajpaaHQ01
namespace Go.Proofs.Ytdelmgoapdajpaa.Pure
open Go.RowKit Go.Proofs.Ytdelmgoapdajpaa.PC01 Go.Proofs.YtdelmgoapdajpaaW.PrintWords Go.Proofs.YtdelmgoapdajpaaW.PrintLast Go.Proofs.YtdelmgoapdajpaaH Go.Proofs.YtdelmgoapdajpaaU
set_option linter.unusedVariables false

theorem chain_app : ∀ (pre r : List Rn) (p e : Int), Chain p (pre ++ r) e → ∃ m, Chain m r e ∧ ∀ y ∈ pre, y.f0 < m
  | [], r, p, e, h => ⟨p, h, fun y hy => by simp at hy⟩
  | x :: pre, r, p, e, h => by
    obtain ⟨h1, h2, h3, h4, h5, h6⟩ := h
    obtain ⟨m, hm, hy⟩ := chain_app pre r _ _ h6
    refine ⟨m, hm, fun y h => ?_⟩
    rcases List.mem_cons.1 h with rfl | h
    · rcases r with _ | ⟨z, r⟩
      · have := chain_le _ _ _ h6
        simp only [Chain] at hm
        omega
      · have := chain_gt _ _ _ h6 z (by simp)
        have := hm.1
        omega
    · exact hy y h
theorem places_l0 (L : List UInt8) (hL : L.length < 1000000) (a : Int) (xs : List Rn) (hx : xs = runesOf L) : ∀ (r pre : List Rn) (want : Int), xs = pre ++ r →
    ((want = -1 ∧ findAt xs a 0 = findAt r a (pre.length : Int)) ∨ (0 ≤ want ∧ findAt xs a 0 = (want, true) ∧ ∀ y ∈ r, y.f0 ≠ a)) →
    Ev (fun k => parquetrylaw01_RunesPlaces.l0 k ⟨⟨L⟩⟩ a xs want (pre.length : Int)) true
  | [], pre, want, h, hw => by
    refine Ev.succ ?_
    simp only [parquetrylaw01_RunesPlaces.l0]
    refine Ev.ifn (by rw [h]; simp) (Ev.bindc (place_eq L (by omega) a) ?_)
    rw [← hx]
    rcases hw with ⟨hw, hf⟩ | ⟨hw, hf, _⟩
    · rw [hf, hw, show findAt [] a (pre.length : Int) = (0, false) from rfl]
      exact Ev.ifp (by decide) (Ev.ifp (by decide) (Ev.bind awake_ev (Ev.now _)))
    · rw [hf]
      refine Ev.ifp (by simp [hw]) (Ev.ifp ?_ (Ev.bind awake_ev (Ev.now _)))
      show want = mx want 0
      unfold mx
      omega
  | x :: r, pre, want, h, hw => by
    have hlen0 : xs.length ≤ L.length := by rw [hx]; exact runesOf_len L
    have hlen : xs.length = pre.length + (r.length + 1) := by rw [h]; simp
    have hrd : rd_T27 xs (pre.length : Int) = x := by rw [h]; exact rd_at pre x r
    have e : wrap64 ((pre.length : Int) + 1) = ((pre ++ [x]).length : Int) := by rw [w64 (by omega) (by omega)]; simp
    have hc : Chain 0 (pre ++ x :: r) (L.length : Int) := by rw [← h, hx]; exact chain_of L
    obtain ⟨m, hm, hpre⟩ := chain_app pre (x :: r) 0 _ hc
    have hx0 := hm.1
    have hplace : runes_Place.f ⟨⟨L⟩⟩ x.f0 = some ((pre.length : Int), true) := by
      rw [place_eq L (by omega), ← hx, h, findAt_hit pre x r x.f0 0 (fun y hy => by have := hpre y hy; omega) rfl]
      simp
    have hr : ∀ y ∈ r, x.f0 < y.f0 := fun y hy => by
      have := chain_gt _ _ _ hm.2.2.2.2.2 y hy
      have := hm.2.1
      omega
    refine Ev.succ ?_
    simp only [parquetrylaw01_RunesPlaces.l0]
    refine Ev.ifp (by omega) (Ev.ifp (by omega) ?_)
    rw [hrd, e]
    by_cases ha : x.f0 = a
    · refine Ev.ifp ha (Ev.bindc hplace (Ev.ifp rfl (Ev.ifp rfl ?_)))
      refine places_l0 L hL a xs hx r (pre ++ [x]) (pre.length : Int) (by rw [h]; simp) (.inr ⟨by omega, ?_, fun y hy => by have := hr y hy; omega⟩)
      rcases hw with ⟨_, hf⟩ | ⟨_, _, hn⟩
      · rw [hf]
        simp only [findAt, if_pos ha]
      · exact absurd ha (hn x (by simp))
    · refine Ev.ifn ha (Ev.bindc hplace (Ev.ifp rfl (Ev.ifp rfl ?_)))
      refine places_l0 L hL a xs hx r (pre ++ [x]) want (by rw [h]; simp) ?_
      rcases hw with ⟨hw, hf⟩ | ⟨hw, hf, hn⟩
      · refine .inl ⟨hw, ?_⟩
        rw [hf]
        simp only [findAt, if_neg ha]
        congr 1
        simp
      · exact .inr ⟨hw, hf, fun y hy => hn y (by simp [hy])⟩
theorem RunesPlaces : parquetrylaw01_RunesPlaces.Pure := by
  intro s a hs ha
  obtain ⟨L, rfl⟩ := list_of s
  refine Ev.ex ?_
  unfold parquetrylaw01_RunesPlaces.f
  rw [size_list]
  by_cases h : (L.length : Int) > 1000
  · exact Ev.ifp h (Ev.bind awake_ev (Ev.now _))
  · refine Ev.ifn h (Ev.bind (refSplit_ev L (by omega)) ?_)
    exact places_l0 L (by omega) a (runesOf L) rfl (runesOf L) [] (-1) rfl (.inl ⟨rfl, rfl⟩)
end Go.Proofs.Ytdelmgoapdajpaa.Pure
