/- RunesWhole: the runes of any text follow one another without a gap, from its beginning to its end, each of one to four bytes (the pure statement over the printed Lean functions). Conditions: those of the statement. -/
import Derived.Test.YtdelmgoapdajpaaPC01x7
import Derived.Test.YtdelmgoapdajpaaHQ01
namespace Go.Proofs.Ytdelmgoapdajpaa.Pure
open Go.RowKit Go.Proofs.Ytdelmgoapdajpaa.PC01 Go.Proofs.YtdelmgoapdajpaaW.PrintWords Go.Proofs.YtdelmgoapdajpaaW.PrintLast Go.Proofs.YtdelmgoapdajpaaH Go.Proofs.YtdelmgoapdajpaaU
set_option linter.unusedVariables false

theorem whole_l0 (L : List UInt8) (hL : L.length < 1000000000) (xs : List Rn) (hx : xs.length < 1000000000) : ∀ (r pre : List Rn) (p : Int), xs = pre ++ r → 0 ≤ p → Chain p r (L.length : Int) →
    Ev (fun k => parquetrylaw01_RunesWhole.l0 k ⟨⟨L⟩⟩ p xs (pre.length : Int)) true
  | [], pre, p, h, h0, hc => by
    refine Ev.succ ?_
    simp only [parquetrylaw01_RunesWhole.l0]
    refine Ev.ifn (by rw [h]; simp) (Ev.ifp (by rw [size_list]; exact hc) ?_)
    exact Ev.bind awake_ev (Ev.now _)
  | x :: r, pre, p, h, h0, hc => by
    have hlen : xs.length = pre.length + (r.length + 1) := by rw [h]; simp
    have hrd : rd_T27 xs (pre.length : Int) = x := by rw [h]; exact rd_at pre x r
    have hle := chain_le _ _ _ hc
    obtain ⟨h1, h2, h3, h4, h5, h6⟩ := hc
    have e : wrap64 ((pre.length : Int) + 1) = ((pre ++ [x]).length : Int) := by rw [w64 (by omega) (by omega)]; simp
    simp only [List.length_cons] at hle
    refine Ev.succ ?_
    simp only [parquetrylaw01_RunesWhole.l0]
    refine Ev.ifp (by omega) (Ev.ifp (by omega) ?_)
    rw [hrd, e, w64 (by omega) (by omega)]
    refine Ev.ifp h1 (Ev.ifn (by omega) (Ev.ifn (by omega) (Ev.ifn (by omega) (Ev.ifn (by omega) ?_))))
    exact whole_l0 L hL xs hx r (pre ++ [x]) (p + x.f1) (by rw [h]; simp) (by omega) h6
theorem RunesWhole : parquetrylaw01_RunesWhole.Pure := by
  intro s hs
  obtain ⟨L, rfl⟩ := list_of s
  refine Ev.ex ?_
  unfold parquetrylaw01_RunesWhole.f
  rw [size_list]
  by_cases h : (L.length : Int) > 4000
  · exact Ev.ifp h (Ev.bind awake_ev (Ev.now _))
  · refine Ev.ifn h (Ev.bindc (split_eq L (by omega)) ?_)
    have := runesOf_len L
    exact whole_l0 L (by omega) (runesOf L) (by omega) (runesOf L) [] 0 rfl (by omega) (chain_of L)
end Go.Proofs.Ytdelmgoapdajpaa.Pure
