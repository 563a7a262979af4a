/- Chapter 18: what clip.All tells, in plain Lean. Conditions: whole numbers are int64, lists are short. -/
import Derived.Test.YtieffcjbbhigbaaPC18x8
import Derived.Test.YtieffcjbbhigbaaHC18
namespace Go.Proofs.Ytieffcjbbhigbaa.Pure
open Go.RowKit Go.Proofs.Ytieffcjbbhigbaa.PC18 Go.Proofs.YtieffcjbbhigbaaW.PrintWords Go.Proofs.YtieffcjbbhigbaaW.PrintLast Go.Proofs.YtieffcjbbhigbaaW.PrintMore Go.Proofs.YtieffcjbbhigbaaH
set_option linter.unusedVariables false

/-- What becomes of line i of N, where there is room for h. -/
def oneV (l : List S39) (w h : Int) (N i : Nat) (y : S29) : S29 := if (i : Int) = h - 1 ∧ (i : Int) < (N : Int) - 1 then cutV l y w else clipV l y w
def outV (l : List S39) (w h : Int) (N : Nat) : Nat → List S29 → List S29
  | _, [] => []
  | i, y :: r => if (i : Int) ≥ h then outV l w h N (i + 1) r else oneV l w h N i y :: outV l w h N (i + 1) r
theorem rd_l (pre : List S29) (c : S29) (r : List S29) : rd_T29 (pre ++ c :: r) (pre.length : Int) = c := by
  unfold rd_T29
  simp
theorem all_l0 (l : List S39) (ls : List S29) (w h : Int) (hl : l.length ≤ 300) (hls : ls.length ≤ 100) (hw : w ≤ 9223372036854775807) (hh : -9223372036854775808 ≤ h ∧ h ≤ 9223372036854775807) :
    ∀ (r pre out : List S29), ls = pre ++ r → out.length ≤ pre.length → ∃ v, Ev (fun k => clip_All.l0 k l ls w h out 0 ls (ls.length : Int) (pre.length : Int)) v ∧ ((∀ y ∈ r, mayL l y) → v = (out ++ outV l w h ls.length pre.length r, 0)) ∧ ((¬ ∀ y ∈ r, mayL l y) → v = ([], 1))
  | [], pre, out, he, ho => by
    refine ⟨(out, 0), Ev.succ ?_, fun _ => by simp [outV], fun h => by simp at h⟩
    simp only [clip_All.l0]
    exact Ev.ifn (by rw [he]; simp) (Ev.now _)
  | y :: r, pre, out, he, ho => by
    have hlen : ls.length = pre.length + (r.length + 1) := by rw [he]; simp
    have hrd : rd_T29 ls (pre.length : Int) = y := by rw [he]; exact rd_l pre y r
    have e1 : wrap64 ((pre.length : Int) + 1) = ((pre ++ [y]).length : Int) := by rw [w64 (by omega) (by omega)]; simp
    have e2 : (pre ++ [y]).length = pre.length + 1 := by simp
    have he' : ls = (pre ++ [y]) ++ r := by rw [he]; simp
    by_cases hm : mayL l y
    · have ap : ∀ (P : Prop), ((∀ q ∈ y :: r, mayL l q) → P) ↔ ((∀ q ∈ r, mayL l q) → P) := fun P => ⟨fun h1 h2 => h1 (fun q hq => by rcases List.mem_cons.1 hq with rfl | hq; exact hm; exact h2 q hq), fun h1 h2 => h1 (fun q hq => h2 q (List.mem_cons_of_mem _ hq))⟩
      have an : (¬ ∀ q ∈ y :: r, mayL l q) → ¬ ∀ q ∈ r, mayL l q := fun h1 h2 => h1 (fun q hq => by rcases List.mem_cons.1 hq with rfl | hq; exact hm; exact h2 q hq)
      by_cases h1 : (pre.length : Int) ≥ h
      · obtain ⟨v, hv, hy, hn⟩ := all_l0 l ls w h hl hls hw hh r (pre ++ [y]) out he' (by omega)
        refine ⟨v, Ev.succ ?_, (ap _).2 (fun hq => ?_), fun hq => hn (an hq)⟩
        · simp only [clip_All.l0]
          rw [hrd, e1]
          exact Ev.ifp (by omega) (Ev.ifp (by omega) (Ev.ifp (by omega) (Ev.bindc (may_eq l _ _ _ _ _) (Ev.ifp (decide_eq_true hm) (Ev.ifp h1 hv)))))
        · rw [hy hq]
          simp only [outV]
          rw [if_pos h1, e2]
      · obtain ⟨v, hv, hy, hn⟩ := all_l0 l ls w h hl hls hw hh r (pre ++ [y]) (out ++ [oneV l w h ls.length pre.length y]) he' (by simp; omega)
        refine ⟨v, Ev.succ ?_, (ap _).2 (fun hq => ?_), fun hq => hn (an hq)⟩
        · simp only [clip_All.l0]
          rw [hrd, e1]
          refine Ev.ifp (by omega) (Ev.ifp (by omega) (Ev.ifp (by omega) (Ev.bindc (may_eq l _ _ _ _ _) (Ev.ifp (decide_eq_true hm) (Ev.ifn h1 ?_)))))
          rw [w64 (x := h - 1) (by omega) (by omega), w64 (x := (ls.length : Int) - 1) (by omega) (by omega)]
          by_cases h2 : (pre.length : Int) = h - 1
          · refine Ev.ifp h2 (Ev.succ ?_)
            simp only [clip_All.j1]
            by_cases h3 : (pre.length : Int) < (ls.length : Int) - 1
            · refine Ev.ifp (by simpa using h3) (Ev.bind (look_cut l _ _ _ _ _ w hl hm hw) (Ev.ifp (by omega) ?_))
              rw [e1]
              have e : oneV l w h ls.length pre.length y = cutV l y w := if_pos ⟨h2, h3⟩
              rw [e] at hv
              exact hv
            · refine Ev.ifn (by simpa using h3) (Ev.bind (look_clipped l _ _ _ _ _ w hl hm hw) (Ev.ifp (by omega) ?_))
              rw [e1]
              have e : oneV l w h ls.length pre.length y = clipV l y w := if_neg (fun hq => h3 hq.2)
              rw [e] at hv
              exact hv
          · refine Ev.ifn h2 (Ev.succ ?_)
            simp only [clip_All.j1]
            refine Ev.ifn (by simp) (Ev.bind (look_clipped l _ _ _ _ _ w hl hm hw) (Ev.ifp (by omega) ?_))
            rw [e1]
            have e : oneV l w h ls.length pre.length y = clipV l y w := if_neg (fun hq => h2 hq.1)
            rw [e] at hv
            exact hv
        · rw [hy hq]
          simp only [outV]
          rw [if_neg h1, e2]
          simp
    · refine ⟨([], 1), Ev.succ ?_, fun h => absurd (h y List.mem_cons_self) hm, fun _ => rfl⟩
      simp only [clip_All.l0]
      rw [hrd]
      exact Ev.ifp (by omega) (Ev.ifp (by omega) (Ev.ifp (by omega) (Ev.bindc (may_eq l _ _ _ _ _) (Ev.ifn (fun hq => hm (of_decide_eq_true hq)) (Ev.now _)))))
theorem outV_len (l : List S39) (w h : Int) (N : Nat) : ∀ (r : List S29) (i : Nat), (i : Int) ≤ mx h 0 → ((outV l w h N i r).length : Int) = mn (r.length : Int) (mx h 0 - i)
  | [], i, hi => by
    simp only [outV, List.length_nil]
    rw [mx_def] at hi ⊢
    rw [mn_def]
    split <;> split at hi <;> omega
  | y :: r, i, hi => by
    simp only [outV]
    by_cases h1 : (i : Int) ≥ h
    · rw [if_pos h1]
      have : outV l w h N (i + 1) r = [] := by
        have key : ∀ (q : List S29) (j : Nat), (j : Int) ≥ h → outV l w h N j q = [] := by
          intro q
          induction q with
          | nil => intro j _; rfl
          | cons x q ih =>
            intro j hj
            simp only [outV]
            rw [if_pos hj]
            exact ih (j + 1) (by omega)
        exact key r (i + 1) (by omega)
      rw [this]
      simp only [List.length_nil, List.length_cons]
      rw [mx_def] at hi ⊢
      rw [mn_def]
      split at hi <;> split <;> split <;> omega
    · rw [if_neg h1]
      have ih := outV_len l w h N r (i + 1) (by rw [mx_def]; split <;> omega)
      simp only [List.length_cons]
      rw [mn_def] at ih ⊢
      split at ih <;> split <;> omega
theorem outV_get (l : List S39) (w h : Int) (N : Nat) : ∀ (r : List S29) (i j : Nat), ((i + j : Nat) : Int) < h → j < r.length → (outV l w h N i r)[j]? = (r[j]?).map (oneV l w h N (i + j))
  | [], i, j, hi, hj => by simp at hj
  | y :: r, i, 0, hi, hj => by
    simp only [outV]
    rw [if_neg (by omega)]
    simp
  | y :: r, i, j + 1, hi, hj => by
    simp only [outV]
    rw [if_neg (by omega)]
    have ih := outV_get l w h N r (i + 1) j (by omega) (by simpa using hj)
    simp only [List.getElem?_cons_succ]
    rw [ih]
    have e : i + 1 + j = i + (j + 1) := by omega
    rw [e]
end Go.Proofs.Ytieffcjbbhigbaa.Pure
