/- GcbRuns: the runs of code points are the document's, and the code points stay (the pure statement over the printed Lean functions). Conditions: those of the statement. -/
import Derived.Test.YtgbkfjdkejjmpaaPC05x5
import Derived.Test.YtgbkfjdkejjmpaaHP05
namespace Go.Proofs.Ytgbkfjdkejjmpaa.Pure
open Go.RowKit Go.Proofs.Ytgbkfjdkejjmpaa.PC05 Go.Proofs.YtgbkfjdkejjmpaaW.PrintWords Go.Proofs.YtgbkfjdkejjmpaaW.PrintLast Go.Proofs.YtgbkfjdkejjmpaaH
set_option linter.unusedVariables false

theorem refRuns_l0 (l : List Int) (hl : l.length < 1000) : ∀ (r pre fin : List Int) (n c : Int), l = pre ++ c :: r → 1 ≤ n → n ≤ 1 + pre.length → fin.length ≤ pre.length → Ev (fun k => parquetryref05_Runs.l0 k l fin (n - 1) (pre.length : Int)) (go r fin n c)
  | [], pre, fin, n, c, h, h1, h2, h3 => by
    have hlen : l.length = pre.length + 1 := by rw [h]; simp
    refine Ev.succ ?_
    simp only [parquetryref05_Runs.l0]
    rw [w64 (x := n - 1 + 1) (by omega) (by omega), w64 (x := (pre.length : Int) + 1) (by omega) (by omega), show n - 1 + 1 = n from by omega]
    refine Ev.ifp (by omega) (Ev.ifp (by omega) (Ev.ifp (by omega) (Ev.succ ?_)))
    simp only [parquetryref05_Runs.l0]
    exact Ev.ifn (by omega) (Ev.now _)
  | d :: r, pre, fin, n, c, h, h1, h2, h3 => by
    have hlen : l.length = pre.length + (r.length + 2) := by rw [h]; simp
    have e1 : rd l (pre.length : Int) = c := by rw [h]; exact rd_mid pre c _
    have e2 : rd l ((pre.length : Int) + 1) = d := by
      have := rd_mid (pre ++ [c]) d r
      rw [List.length_append, List.append_assoc] at this
      rw [h]
      simpa using this
    have e6 : (pre.length : Int) + 1 = ((pre ++ [c]).length : Int) := by simp
    refine Ev.succ ?_
    simp only [parquetryref05_Runs.l0]
    rw [w64 (x := n - 1 + 1) (by omega) (by omega), w64 (x := (pre.length : Int) + 1) (by omega) (by omega), e1, e2]
    refine Ev.ifp (by omega) (Ev.ifn (by omega) (Ev.ifp (by omega) (Ev.ifp (by omega) (Ev.bind (refOf_ev d) (Ev.ifp (by omega) (Ev.bind (refOf_ev c) ?_))))))
    rw [e6]
    unfold go
    by_cases hk : gk c = gk d
    · rw [if_pos hk, show n - 1 + 1 = n + 1 - 1 from by omega]
      exact Ev.ifp hk.symm (refRuns_l0 l hl r (pre ++ [c]) fin (n + 1) d (by rw [h]; simp) (by omega) (by simp; omega) (by simp; omega))
    · rw [if_neg hk, show n - 1 + 1 = n from by omega]
      exact Ev.ifn (fun e => hk e.symm) (Ev.ifp (by omega) (refRuns_l0 l hl r (pre ++ [c]) (fin ++ [n]) 1 d (by rw [h]; simp) (by omega) (by omega) (by simp; omega)))
theorem refRuns_ev (l : List Int) (hl : l.length < 1000) : Ev (fun k => parquetryref05_Runs.f k l) (runsV l) := by
  unfold parquetryref05_Runs.f
  cases l with
  | nil =>
    refine Ev.succ ?_
    simp only [parquetryref05_Runs.l0]
    exact Ev.ifn (by simp) (Ev.now _)
  | cons c r => exact refRuns_l0 (c :: r) hl r [] [] 1 c rfl (by omega) (by simp) (by simp)
theorem same_l1 (l : List Int) (hl : l.length < 1000) : ∀ (r pre : List Int), l = pre ++ r → Ev (fun k => parquetrylaw05_GcbRuns.l1 k l l (pre.length : Int)) true
  | [], pre, h => by
    refine Ev.succ ?_
    simp only [parquetrylaw05_GcbRuns.l1]
    exact Ev.ifn (by rw [h]; simp) (Ev.bind awake_ev (Ev.now _))
  | x :: r, pre, h => by
    have hlen : l.length = pre.length + (r.length + 1) := by rw [h]; simp
    refine Ev.succ ?_
    simp only [parquetrylaw05_GcbRuns.l1]
    rw [show wrap64 ((pre.length : Int) + 1) = ((pre ++ [x]).length : Int) from by rw [w64 (by omega) (by omega)]; simp]
    exact Ev.ifp (by omega) (Ev.ifp (by omega) (Ev.ifp (by omega) (Ev.ifp trivial (same_l1 l hl r (pre ++ [x]) (by rw [h]; simp)))))
theorem same_l0 (l m : List Int) (hl : l.length < 1000) (hm : m.length < 9223372036854775807) : ∀ (r pre : List Int), m = pre ++ r → Ev (fun k => parquetrylaw05_GcbRuns.l0 k l l m m (pre.length : Int)) true
  | [], pre, h => by
    refine Ev.succ ?_
    simp only [parquetrylaw05_GcbRuns.l0]
    exact Ev.ifn (by rw [h]; simp) (same_l1 l hl l [] rfl)
  | x :: r, pre, h => by
    have hlen : m.length = pre.length + (r.length + 1) := by rw [h]; simp
    refine Ev.succ ?_
    simp only [parquetrylaw05_GcbRuns.l0]
    rw [show wrap64 ((pre.length : Int) + 1) = ((pre ++ [x]).length : Int) from by rw [w64 (by omega) (by omega)]; simp]
    exact Ev.ifp (by omega) (Ev.ifp (by omega) (Ev.ifp (by omega) (Ev.ifp trivial (same_l0 l m hl hm r (pre ++ [x]) (by rw [h]; simp)))))
theorem runsV_len (l : List Int) : (runsV l).length ≤ l.length := by
  cases l with
  | nil => simp [runsV]
  | cons c r =>
    have := go_len r [] 1 c
    simp only [runsV, List.length_cons, List.length_nil] at this ⊢
    omega
theorem GcbRuns : parquetrylaw05_GcbRuns.Pure := by
  intro l h1 h2 h3
  refine Ev.ex ?_
  unfold parquetrylaw05_GcbRuns.f
  by_cases hl : (l.length : Int) > 100
  · exact Ev.ifp hl (Ev.bind awake_ev (Ev.now _))
  · have hr : ∀ x ∈ l, rng x := fun x hx => wf_i64 (h3 x hx)
    refine Ev.ifn hl (Ev.bindc rfl (Ev.ifp (by simp; omega) (Ev.bindc rfl ?_)))
    rw [List.nil_append]
    refine Ev.bind (runs_ev l (by omega) hr) (Ev.bind (refRuns_ev l (by omega)) (Ev.ifp rfl ?_))
    have := runsV_len l
    exact same_l0 l (runsV l) (by omega) (by omega) (runsV l) [] rfl
end Go.Proofs.Ytgbkfjdkejjmpaa.Pure
