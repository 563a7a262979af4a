/- RunesSplits: runes.Split has the document's runes of any text, and runes.Valid tells whether there is an odd byte (the pure statement over the printed Lean functions). Conditions: those of the statement. -/
import Derived.Test.YtdelmgoapdajpaaPC01x5
import Derived.Test.YtdelmgoapdajpaaHQ01
namespace Go.Proofs.Ytdelmgoapdajpaa.Pure
open Go.RowKit Go.Proofs.Ytdelmgoapdajpaa.PC01 Go.Proofs.YtdelmgoapdajpaaW.PrintWords Go.Proofs.YtdelmgoapdajpaaW.PrintLast Go.Proofs.YtdelmgoapdajpaaH Go.Proofs.YtdelmgoapdajpaaU
set_option linter.unusedVariables false

theorem same_l0 (xs : List Rn) (hl : xs.length < 1000000000) : ∀ (r pre : List Rn), xs = pre ++ r → Ev (fun k => parquetryref01_Same.l0 k xs xs (pre.length : Int)) true
  | [], pre, h => by
    refine Ev.succ ?_
    simp only [parquetryref01_Same.l0]
    exact Ev.ifn (by rw [h]; simp) (Ev.now _)
  | x :: r, pre, h => by
    have hlen : xs.length = pre.length + (r.length + 1) := by rw [h]; simp
    have e : wrap64 ((pre.length : Int) + 1) = ((pre ++ [x]).length : Int) := by rw [w64 (by omega) (by omega)]; simp
    refine Ev.succ ?_
    simp only [parquetryref01_Same.l0]
    rw [e]
    exact Ev.ifp (by omega) (Ev.ifp (by omega) (Ev.ifp (by omega) (Ev.ifn (by simp) (same_l0 xs hl r (pre ++ [x]) (by rw [h]; simp)))))
theorem same_ev (xs : List Rn) (hl : xs.length < 1000000000) : Ev (fun k => parquetryref01_Same.f k xs xs) true := by
  unfold parquetryref01_Same.f
  exact Ev.ifp rfl (same_l0 xs hl xs [] rfl)
theorem odd_eq (x : Rn) : parquetryref01_Odd.f x.f0 x.f1 x.f2 = some (oddR x) := by
  unfold parquetryref01_Odd.f oddR
  by_cases h : x.f2 = 65533
  · rw [if_pos h]
    congr 1
    rw [Bool.eq_iff_iff]
    simp [h]
  · rw [if_neg h, decide_eq_false (fun hk => h hk.1)]
theorem splits_l0 (L : List UInt8) (hL : L.length < 1000000) (xs : List Rn) (he : xs = runesOf L) : ∀ (r pre : List Rn) (v : Bool), xs = pre ++ r → (v && r.all fun x => !oddR x) = validL L →
    Ev (fun k => parquetrylaw01_RunesSplits.l0 k ⟨⟨L⟩⟩ xs v (pre.length : Int)) true
  | [], pre, v, h, hv => by
    have hlen := runesOf_len L
    refine Ev.succ ?_
    simp only [parquetrylaw01_RunesSplits.l0]
    refine Ev.ifn (by rw [h]; simp) (Ev.bindc (split_eq L (by omega)) ?_)
    rw [he]
    refine Ev.bind (same_ev (runesOf L) (by omega)) (Ev.ifp rfl (Ev.bind (valid_ev L (by omega)) (Ev.succ ?_)))
    simp only [parquetrylaw01_RunesSplits.j1]
    have hv' : (validL L != v) = false := by
      rw [← hv]
      simp
    refine Ev.ifn (by rw [hv']; decide) (Ev.ifp (by omega) (Ev.bindc (split_eq L (by omega)) (Ev.bind (same_ev (runesOf L) (by omega)) (Ev.ifp rfl (Ev.bind awake_ev (Ev.now _))))))
  | x :: r, pre, v, h, hv => by
    have hlen0 : xs.length ≤ L.length := by rw [he]; exact runesOf_len L
    have hlen : xs.length = pre.length + (r.length + 1) := by rw [h]; simp
    have hrd : rd_T27 xs (pre.length : Int) = x := by rw [h]; exact rd_at pre x r
    have e : wrap64 ((pre.length : Int) + 1) = ((pre ++ [x]).length : Int) := by rw [w64 (by omega) (by omega)]; simp
    refine Ev.succ ?_
    simp only [parquetrylaw01_RunesSplits.l0]
    rw [hrd, e]
    refine Ev.ifp (by omega) ?_
    cases v with
    | true =>
      refine Ev.ifp rfl (Ev.ifp (by omega) (Ev.bindc (odd_eq x) ?_))
      refine splits_l0 L hL xs he r (pre ++ [x]) (!oddR x) (by rw [h]; simp) ?_
      rw [← hv]
      simp
    | false =>
      refine Ev.ifn (by decide) ?_
      refine splits_l0 L hL xs he r (pre ++ [x]) false (by rw [h]; simp) ?_
      rw [← hv]
      simp
theorem RunesSplits : parquetrylaw01_RunesSplits.Pure := by
  intro s hs
  obtain ⟨L, rfl⟩ := list_of s
  refine Ev.ex ?_
  unfold parquetrylaw01_RunesSplits.f
  rw [size_list]
  by_cases h : (L.length : Int) > 4000
  · exact Ev.ifp h (Ev.bind awake_ev (Ev.now _))
  · refine Ev.ifn h (Ev.bind (refSplit_ev L (by omega)) ?_)
    exact splits_l0 L (by omega) (runesOf L) rfl (runesOf L) [] true rfl (by simp [validL])
end Go.Proofs.Ytdelmgoapdajpaa.Pure
