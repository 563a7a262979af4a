/- ClipLeft: of lines that may be as many are answered as there is room for; where some are left out the last one has dots; where none is, each is what it is clipped to alone (the pure statement over the printed Lean functions). Conditions: those of the statement. -/
import Derived.Test.YtieffcjbbhigbaaPC18x9
import Derived.Test.YtieffcjbbhigbaaHD18
namespace Go.Proofs.Ytieffcjbbhigbaa.Pure
open Go.RowKit Go.Proofs.Ytieffcjbbhigbaa.PC18 Go.Proofs.YtieffcjbbhigbaaW.PrintWords Go.Proofs.YtieffcjbbhigbaaW.PrintLast Go.Proofs.YtieffcjbbhigbaaW.PrintMore Go.Proofs.YtieffcjbbhigbaaH
set_option linter.unusedVariables false

theorem left_l0 (l : List S39) (ls xs : List S29) (w h n : Int) (hl : l.length ≤ 300) (hls : ls.length ≤ 100) (hw : w ≤ 9223372036854775807) (hm : ∀ y ∈ ls, mayL l y)
    (hn : n = mn (ls.length : Int) (mx h 0)) (hx : (xs.length : Int) = n) (hg : ∀ j : Nat, (j : Int) < n → rd_T29 xs j = oneV l w h ls.length j (rd_T29 ls j)) :
    ∀ (m i : Nat), (i : Int) + m = n → Ev (fun k => parquetrylaw18_ClipLeft.l0 k l ls w xs n (i : Int)) true
  | 0, i, hi => by
    refine Ev.succ ?_
    simp only [parquetrylaw18_ClipLeft.l0]
    exact Ev.ifn (by omega) (Ev.bind awake_ev (Ev.now _))
  | m + 1, i, hi => by
    have hnl : n ≤ (ls.length : Int) ∧ ((i : Int) < n → (i : Int) < h) ∧ (n < (ls.length : Int) → 0 < n → n = h) ∧ (h ≤ (ls.length : Int) → 0 ≤ h → n = h) := by
      rw [hn, mn_def, mx_def]
      split <;> split <;> omega
    obtain ⟨n1, n2, n3, n4⟩ := hnl
    have hi2 : (i : Int) < n := by omega
    have n2 := n2 hi2
    have hmi : mayL l (rd_T29 ls (i : Int)) := by
      refine hm _ ?_
      unfold rd_T29
      rw [Int.toNat_natCast, List.getD_eq_getElem?_getD, List.getElem?_eq_getElem (by omega)]
      simp
    have ih := left_l0 l ls xs w h n hl hls hw hm hn hx hg m (i + 1) (by omega)
    have e : wrap64 ((i : Int) + 1) = ((i + 1 : Nat) : Int) := by rw [w64 (by omega) (by omega)]; omega
    have hgi := hg i (by omega)
    refine Ev.succ ?_
    simp only [parquetrylaw18_ClipLeft.l0]
    rw [e]
    refine Ev.ifp (by omega) (Ev.ifp (by omega) (Ev.ifp (by omega) (Ev.bind (clip_ev l _ _ _ _ _ w hl hmi hw) ?_)))
    by_cases h1 : ((i + 1 : Nat) : Int) = n
    · refine Ev.ifp h1 (Ev.succ ?_)
      simp only [parquetrylaw18_ClipLeft.j2]
      rw [e]
      by_cases h2 : n < (ls.length : Int)
      · have eo : oneV l w h ls.length i (rd_T29 ls (i : Int)) = cutV l (rd_T29 ls (i : Int)) w := if_pos ⟨by omega, by omega⟩
        rw [eo] at hgi
        refine Ev.ifp (by simpa using h2) (Ev.ifp (by omega) (Ev.ifp (by omega) (Ev.bind (cut_ev l _ _ _ _ _ w hl hmi hw) (Ev.ifp rfl (Ev.ifp (by omega) ?_)))))
        rw [hgi]
        exact Ev.ifn (by simp [tupE]) ih
      · have eo : oneV l w h ls.length i (rd_T29 ls (i : Int)) = clipV l (rd_T29 ls (i : Int)) w := if_neg (fun hq => by omega)
        rw [eo] at hgi
        refine Ev.ifn (by simpa using h2) (Ev.ifp rfl (Ev.ifp (by omega) (Ev.ifp (by omega) ?_)))
        rw [hgi]
        exact Ev.ifn (by simp [tupE]) ih
    · refine Ev.ifn h1 (Ev.succ ?_)
      simp only [parquetrylaw18_ClipLeft.j2]
      rw [e]
      have eo : oneV l w h ls.length i (rd_T29 ls (i : Int)) = clipV l (rd_T29 ls (i : Int)) w := if_neg (fun hq => by omega)
      rw [eo] at hgi
      refine Ev.ifn (by simp) (Ev.ifp rfl (Ev.ifp (by omega) (Ev.ifp (by omega) ?_)))
      rw [hgi]
      exact Ev.ifn (by simp [tupE]) ih
theorem ClipLeft : parquetrylaw18_ClipLeft.Pure := by
  intro l ls w h h1 h2 h3 h4 h5 h6 hw hh
  have hw := wf64 hw
  have hh := wf64 hh
  refine Ev.ex ?_
  unfold parquetrylaw18_ClipLeft.f
  by_cases hl : (l.length : Int) > 300
  · refine Ev.ifp hl (Ev.succ ?_)
    simp only [parquetrylaw18_ClipLeft.j0]
    exact Ev.ifp trivial (Ev.bind awake_ev (Ev.now _))
  refine Ev.ifn hl (Ev.succ ?_)
  simp only [parquetrylaw18_ClipLeft.j0]
  by_cases hs : (ls.length : Int) > 100
  · exact Ev.ifp (by simpa using hs) (Ev.bind awake_ev (Ev.now _))
  refine Ev.ifn (by simpa using hs) ?_
  obtain ⟨v, hv, hy, hn⟩ := all_l0 l ls w h (by omega) (by omega) hw.2 hh ls [] [] rfl (Nat.le_refl _)
  have ha : Ev (fun k => clip_All.f k l ls w h) v := hv
  refine Ev.bind ha ?_
  by_cases hm : ∀ y ∈ ls, mayL l y
  · obtain rfl := hy hm
    have hlen := outV_len l w h ls.length ls 0 (by rw [mx_def]; split <;> omega)
    have hlen2 : ((outV l w h ls.length 0 ls).length : Int) = mn (ls.length : Int) (mx h 0) := by
      rw [hlen]
      congr 1
      omega
    refine Ev.ifp rfl (Ev.ifp hlen2 ?_)
    refine left_l0 l ls _ w h _ (by omega) (by omega) hw.2 hm rfl hlen2 (fun j hj => ?_) (mn (ls.length : Int) (mx h 0)).toNat 0 ?_
    · have hj2 : (j : Int) < h ∧ j < ls.length := by
        rw [mn_def, mx_def] at hj
        split at hj <;> split at hj <;> omega
      have := outV_get l w h ls.length ls 0 j (by omega) hj2.2
      unfold rd_T29
      rw [Int.toNat_natCast, List.getD_eq_getElem?_getD, List.getD_eq_getElem?_getD]
      rw [this, List.getElem?_eq_getElem hj2.2]
      simp
    · rw [mn_def, mx_def]
      split <;> split <;> omega
  · obtain rfl := hn hm
    exact Ev.ifn (by simp) (Ev.ifp rfl (Ev.bind awake_ev (Ev.now _)))
end Go.Proofs.Ytieffcjbbhigbaa.Pure
