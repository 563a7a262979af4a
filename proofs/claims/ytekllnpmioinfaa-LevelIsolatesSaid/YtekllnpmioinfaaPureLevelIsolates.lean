/- LevelIsolates: what stands in an isolate that is closed, with all in it, changes no level around it, and as what nothing around it is told (the pure statement over the printed Lean functions). Conditions: those of the statement. -/
import Derived.Test.YtekllnpmioinfaaPC11x10
import Derived.Test.YtekllnpmioinfaaHS11
namespace Go.Proofs.Ytekllnpmioinfaa.Pure
open Go.RowKit Go.Proofs.Ytekllnpmioinfaa.PC11 Go.Proofs.YtekllnpmioinfaaW.PrintWords Go.Proofs.YtekllnpmioinfaaW.PrintLast Go.Proofs.YtekllnpmioinfaaH
set_option linter.unusedVariables false

theorem opens3_eq (c : Int) : parquetrylaw11_opens.f c = some (ini c) := by
  unfold parquetrylaw11_opens.f ini
  by_cases h1 : c = 19
  · simp [h1]
  · by_cases h2 : c = 20
    · simp [h2]
    · by_cases h3 : c = 21
      · simp [h3]
      · simp [h1, h2, h3]
theorem closed_out (l : List Int) (d i : Int) (h : d < 0) : Ev (fun k => parquetrylaw11_closed.l0 k l d i) false := by
  refine Ev.succ ?_
  simp only [parquetrylaw11_closed.l0]
  have e : (d == 0) = false := beq_eq_false_iff_ne.2 (by omega)
  by_cases hi : i < (l.length : Int)
  · refine Ev.ifp hi (Ev.succ ?_)
    simp only [parquetrylaw11_closed.j1]
    exact Ev.ifn (by simp; omega) (Ev.val (Ev.now _) e)
  · refine Ev.ifn hi (Ev.succ ?_)
    simp only [parquetrylaw11_closed.j1]
    exact Ev.ifn (by decide) (Ev.val (Ev.now _) e)
theorem closed_l0 (l : List Int) (hl : l.length < 1000000) : ∀ (r pre : List Int) (d : Nat), l = pre ++ r → d ≤ pre.length → Ev (fun k => parquetrylaw11_closed.l0 k l (d : Int) (pre.length : Int)) (clsd r d)
  | [], pre, d, h, hd => by
    refine Ev.succ ?_
    simp only [parquetrylaw11_closed.l0]
    refine Ev.ifn (by rw [h]; simp) (Ev.succ ?_)
    simp only [parquetrylaw11_closed.j1]
    refine Ev.ifn (by decide) (Ev.val (Ev.now _) ?_)
    unfold clsd
    rw [Bool.eq_iff_iff, beq_iff_eq, beq_iff_eq]
    omega
  | c :: r, pre, d, h, hd => by
    have hlen : l.length = pre.length + (r.length + 1) := by rw [h]; simp
    have hrd : rd l (pre.length : Int) = c := by rw [h]; exact rd_mid pre c r
    have ih := fun d hd => closed_l0 l hl r (pre ++ [c]) d (by rw [h]; simp) hd
    have e1 : wrap64 ((pre.length : Int) + 1) = ((pre ++ [c]).length : Int) := by rw [w64 (by omega) (by omega)]; simp
    refine Ev.succ ?_
    simp only [parquetrylaw11_closed.l0]
    refine Ev.ifp (by omega) (Ev.succ ?_)
    simp only [parquetrylaw11_closed.j1]
    rw [hrd, e1]
    refine Ev.ifp (by simp) (Ev.ifp (by omega) (Ev.ifp (by omega) (Ev.bindc (opens3_eq c) ?_)))
    unfold clsd
    by_cases hi : ini c = true
    · rw [if_pos hi]
      refine Ev.ifp hi (Ev.ifn (ini_ne hi) ?_)
      rw [w64 (x := (d : Int) + 1) (by omega) (by omega)]
      have := ih (d + 1) (by simp; omega)
      rw [show ((d + 1 : Nat) : Int) = (d : Int) + 1 from by omega] at this
      exact this
    · rw [if_neg hi]
      refine Ev.ifn hi ?_
      by_cases h22 : c = 22
      · rw [if_pos h22, w64 (x := (d : Int) - 1) (by omega) (by omega)]
        refine Ev.ifp h22 ?_
        cases d with
        | zero => exact closed_out l _ _ (by omega)
        | succ d =>
          have := ih d (by simp; omega)
          rw [show ((d + 1 : Nat) : Int) - 1 = (d : Int) from by omega]
          exact this
      · rw [if_neg h22]
        exact Ev.ifn h22 (ih d (by simp; omega))
theorem closed_ev (l : List Int) (hl : l.length < 1000000) : Ev (fun k => parquetrylaw11_closed.f k l) (clsd l 0) := by
  unfold parquetrylaw11_closed.f
  exact closed_l0 l hl l [] 0 rfl (by simp)
theorem iso_l0 (a n l m : List Int) (b : Int) (hl : l.length < 10000) (hm : m.length = l.length + n.length) (hn : n.length < 10000) (h : ∀ i, i < l.length → lv l b i = lv m b (if i > a.length then i + n.length else i) ∧ tv l b i = tv m b (if i > a.length then i + n.length else i)) :
    ∀ s i, i + s = l.length → Ev (fun k => parquetrylaw11_LevelIsolates.l0 k a n l ((List.range l.length).map (lv l b)) ((List.range l.length).map (tv l b)) ((List.range m.length).map (lv m b)) ((List.range m.length).map (tv m b)) (i : Int)) true
  | 0, i, hi => by
    refine Ev.succ ?_
    simp only [parquetrylaw11_LevelIsolates.l0, List.length_map, List.length_range]
    exact Ev.ifn (by omega) (Ev.bind awake_ev (Ev.now _))
  | s + 1, i, hi => by
    have ih := iso_l0 a n l m b hl hm hn h s (i + 1) (by omega)
    have h1 : i < l.length := by omega
    have e1 : wrap64 ((i : Int) + 1) = ((i + 1 : Nat) : Int) := by rw [w64 (by omega) (by omega)]; omega
    have e2 : wrap64 ((i : Int) + (n.length : Int)) = ((i + n.length : Nat) : Int) := by rw [w64 (by omega) (by omega)]; omega
    obtain ⟨e3, e4⟩ := h i h1
    refine Ev.succ ?_
    simp only [parquetrylaw11_LevelIsolates.l0, List.length_map, List.length_range]
    rw [e1, e2, rd_map _ _ i h1, rd_map _ _ i h1]
    refine Ev.ifp (by omega) ?_
    by_cases h2 : i > a.length
    · rw [if_pos h2] at e3 e4
      rw [rd_map _ _ (i + n.length) (by omega), rd_map _ _ (i + n.length) (by omega)]
      exact Ev.ifp (by omega) (Ev.ifp (by omega) (Ev.ifp (by omega) (Ev.ifp (by omega) (Ev.ifp (by omega) (Ev.ifp e3 (Ev.ifp (by omega) (Ev.ifp (by omega) (Ev.ifp e4 ih))))))))
    · rw [if_neg h2] at e3 e4
      rw [rd_map _ _ i (by omega), rd_map _ _ i (by omega)]
      exact Ev.ifn (by omega) (Ev.ifp (by omega) (Ev.ifp (by omega) (Ev.ifp (by omega) (Ev.ifp e3 (Ev.ifp (by omega) (Ev.ifp (by omega) (Ev.ifp e4 ih)))))))
theorem iso_j0 (a n v : List Int) (w x : Int) (ha : a.length ≤ 300) (hn : n.length ≤ 300) (hv : v.length ≤ 300) (h : clsd n 0 = true) : Ev (fun k => parquetrylaw11_LevelIsolates.j0 k a n v w x false) true := by
  have e1 : bits .and .i64 w 255 = w % 256 := band w 255 8 (by decide) (by decide)
  have e2 : Int.tmod (w % 256) 3 = (w % 256) % 3 := Int.tmod_eq_emod_of_nonneg (by omega)
  have hc : ini (19 + (w % 256) % 3) = true := by
    simp only [ini, Bool.or_eq_true, decide_eq_true_eq]
    omega
  have hb := and_one x
  refine Ev.succ ?_
  simp only [parquetrylaw11_LevelIsolates.j0]
  rw [e1, e2, w64 (x := 19 + w % 256 % 3) (by omega) (by omega)]
  generalize 19 + w % 256 % 3 = o at *
  generalize bits .and .i64 x 1 = b at *
  refine Ev.ifn (by decide) (Ev.bindc rfl (Ev.ifp (by simp; omega) (Ev.bindc rfl (Ev.ifp (by simp; omega) (Ev.bindc rfl (Ev.bindc rfl (Ev.ifp (by simp; omega) (Ev.bindc rfl (Ev.ifp (by simp; omega) (Ev.bindc rfl (Ev.ifp (by simp; omega) (Ev.bindc rfl (Ev.ifp (by simp; omega) (Ev.bindc rfl (Ev.ifp (by simp; omega) (Ev.bindc rfl (Ev.ifp (by simp; omega) (Ev.bindc rfl ?_))))))))))))))))))
  have el : [] ++ a ++ [o] ++ [22] ++ v = a ++ o :: 22 :: v := by simp
  have em : [] ++ ([] ++ a ++ [o]) ++ n ++ [22] ++ v = a ++ o :: (n ++ 22 :: v) := by simp
  rw [el, em]
  have hll : (a ++ o :: 22 :: v).length = a.length + 2 + v.length := by simp; omega
  have hml : (a ++ o :: (n ++ 22 :: v)).length = (a ++ o :: 22 :: v).length + n.length := by simp; omega
  refine Ev.bind (explicit_ev _ (by omega) _ hb) (Ev.bind (explicit_ev _ (by omega) _ hb) ?_)
  simp only [List.length_map, List.length_range]
  refine Ev.ifp trivial (Ev.ifp trivial (Ev.ifp trivial (Ev.succ ?_)))
  simp only [parquetrylaw11_LevelIsolates.j1]
  refine Ev.ifn (by simp) ?_
  exact iso_l0 a n _ _ b (by omega) hml (by omega) (fun i hi => isolates a n v o b hc h i (by omega)) (a ++ o :: 22 :: v).length 0 (Nat.zero_add _)
theorem iso_t (a n v : List Int) (w x : Int) : Ev (fun k => parquetrylaw11_LevelIsolates.j0 k a n v w x true) true := by
  refine Ev.succ ?_
  simp only [parquetrylaw11_LevelIsolates.j0]
  exact Ev.ifp trivial (Ev.bind awake_ev (Ev.now _))
theorem LevelIsolates : parquetrylaw11_LevelIsolates.Pure := by
  intro a n v w x h1 h2 h3 h4 h5 h6 h7 h8 h9 h10 h11
  refine Ev.ex ?_
  unfold parquetrylaw11_LevelIsolates.f
  by_cases ha : (a.length : Int) > 300
  · exact Ev.ifp ha (iso_t a n v w x)
  · refine Ev.ifn ha ?_
    by_cases hn : (n.length : Int) > 300
    · exact Ev.ifp hn (iso_t a n v w x)
    · refine Ev.ifn hn ?_
      by_cases hb : (v.length : Int) > 300
      · exact Ev.ifp hb (iso_t a n v w x)
      · refine Ev.ifn hb (Ev.bind (closed_ev n (by omega)) ?_)
        cases hc : clsd n 0 with
        | true => exact iso_j0 a n v w x (by omega) (by omega) (by omega) hc
        | false => exact iso_t a n v w x
end Go.Proofs.Ytekllnpmioinfaa.Pure
