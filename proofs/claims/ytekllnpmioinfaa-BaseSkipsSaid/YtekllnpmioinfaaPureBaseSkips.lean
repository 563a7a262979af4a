/- BaseSkips: what stands in an isolate that is closed, with all in it, changes nothing of the level around (the pure statement over the printed Lean functions). Conditions: those of the statement. -/
import Derived.Test.YtekllnpmioinfaaPC10x10
import Derived.Test.YtekllnpmioinfaaHP10
namespace Go.Proofs.Ytekllnpmioinfaa.Pure
open Go.RowKit Go.Proofs.Ytekllnpmioinfaa.PC10 Go.Proofs.YtekllnpmioinfaaW.PrintWords Go.Proofs.YtekllnpmioinfaaW.PrintLast Go.Proofs.YtekllnpmioinfaaH
set_option linter.unusedVariables false

theorem opens2_eq (c : Int) : parquetrylaw10_opens.f c = some (ini c) := by
  unfold parquetrylaw10_opens.f ini
  by_cases h1 : c = 19
  · simp [h1]
  · by_cases h2 : c = 20
    · simp [h2]
    · by_cases h3 : c = 21
      · simp [h3]
      · simp [h1, h2, h3]
/-- Has each initiator its PDI, each PDI its initiator, of so many that are open? -/
def clsd : List Int → Nat → Bool
  | [], d => d == 0
  | c :: r, d => if ini c = true then clsd r (d + 1) else if c = 22 then (match d with | 0 => false | d + 1 => clsd r d) else clsd r d
theorem closed_l0 (l : List Int) (hl : l.length < 1000000) : ∀ (r pre : List Int) (d : Nat), l = pre ++ r → d ≤ pre.length → Ev (fun k => parquetrylaw10_closed.l0 k l (d : Int) (pre.length : Int)) (clsd r d)
  | [], pre, d, h, hd => by
    refine Ev.succ ?_
    simp only [parquetrylaw10_closed.l0]
    refine Ev.ifn (by rw [h]; simp) (Ev.val (Ev.now _) ?_)
    unfold clsd
    rw [Bool.eq_iff_iff, beq_iff_eq, beq_iff_eq]
    omega
  | c :: r, pre, d, h, hd => by
    have hlen : l.length = pre.length + (r.length + 1) := by rw [h]; simp
    have hrd : rd l (pre.length : Int) = c := by rw [h]; exact rd_mid pre c r
    have ih := fun d hd => closed_l0 l hl r (pre ++ [c]) d (by rw [h]; simp) hd
    have e1 : wrap64 ((pre.length : Int) + 1) = ((pre ++ [c]).length : Int) := by rw [w64 (by omega) (by omega)]; simp
    refine Ev.succ ?_
    simp only [parquetrylaw10_closed.l0]
    rw [hrd]
    refine Ev.ifp (by omega) (Ev.ifp (by omega) (Ev.bindc (opens2_eq c) ?_))
    unfold clsd
    by_cases hi : ini c = true
    · refine Ev.ifp hi (Ev.succ ?_)
      simp only [parquetrylaw10_closed.j1]
      rw [hrd, if_pos hi, e1, w64 (x := (d : Int) + 1) (by omega) (by omega)]
      refine Ev.ifp (by omega) (Ev.ifp (by omega) (Ev.ifn (ini_ne hi) (Ev.ifn (by omega) ?_)))
      have := ih (d + 1) (by simp; omega)
      rw [show ((d + 1 : Nat) : Int) = (d : Int) + 1 from by omega] at this
      exact this
    · refine Ev.ifn hi (Ev.succ ?_)
      simp only [parquetrylaw10_closed.j1]
      rw [hrd, if_neg hi, e1]
      refine Ev.ifp (by omega) (Ev.ifp (by omega) ?_)
      by_cases h22 : c = 22
      · rw [if_pos h22, w64 (x := (d : Int) - 1) (by omega) (by omega)]
        refine Ev.ifp h22 ?_
        cases d with
        | zero => exact Ev.ifp (by omega) (Ev.now _)
        | succ d =>
          have := ih d (by simp; omega)
          rw [show ((d + 1 : Nat) : Int) - 1 = (d : Int) from by omega]
          exact Ev.ifn (by omega) this
      · rw [if_neg h22]
        exact Ev.ifn h22 (Ev.ifn (by omega) (ih d (by simp; omega)))
theorem closed_ev (l : List Int) (hl : l.length < 1000000) : Ev (fun k => parquetrylaw10_closed.f k l) (clsd l 0) := by
  unfold parquetrylaw10_closed.f
  exact closed_l0 l hl l [] 0 rfl (by simp)
theorem lev_closed : ∀ (r : List Int) (d b : Nat) (t : List Int), clsd r d = true → lev (r ++ t) (d + b + 1) = lev t (b + 1)
  | [], d, b, t, h => by
    have : d = 0 := by simpa [clsd] using h
    subst this
    simp
  | c :: r, d, b, t, h => by
    rw [List.cons_append, lev_s]
    unfold clsd at h
    by_cases hi : ini c = true
    · rw [if_pos hi] at h
      rw [if_neg (ini_ne hi), if_pos hi, show d + b + 2 = (d + 1) + b + 1 by omega]
      exact lev_closed r (d + 1) b t h
    · rw [if_neg hi] at h
      by_cases h22 : c = 22
      · rw [if_pos h22] at h
        rw [if_pos h22]
        cases d with
        | zero => cases h
        | succ d =>
          rw [show d + 1 + b = d + b + 1 by omega]
          exact lev_closed r d b t h
      · rw [if_neg h22] at h
        rw [if_neg h22, if_neg hi]
        exact lev_closed r d b t h
theorem lev_iso (c : Int) (hc : ini c = true) (r t : List Int) (d : Nat) (h : clsd r 0 = true) : lev (c :: (r ++ 22 :: t)) d = lev t d := by
  have h2 : ¬ c = 0 ∧ ¬ c = 1 ∧ ¬ c = 2 := by
    simp only [ini, Bool.or_eq_true, decide_eq_true_eq] at hc
    omega
  have key := lev_closed r 0 d (22 :: t) h
  rw [Nat.zero_add] at key
  cases d with
  | zero =>
    conv => lhs; unfold lev
    rw [if_neg h2.1, if_neg h2.2.1, if_neg h2.2.2, if_pos hc]
    rw [key, lev_s, if_pos rfl]
  | succ d =>
    rw [lev_s, if_neg (ini_ne hc), if_pos hc, key, lev_s, if_pos rfl]
theorem lev_ahead : ∀ (a x y : List Int), (∀ d, lev x d = lev y d) → ∀ d, lev (a ++ x) d = lev (a ++ y) d
  | [], x, y, h, d => h d
  | c :: a, x, y, h, d => by
    have ih := lev_ahead a x y h
    rw [List.cons_append, List.cons_append]
    cases d with
    | zero => unfold lev; rw [ih 1, ih 0]
    | succ d => rw [lev_s, lev_s, ih d, ih (d + 2), ih (d + 1)]
theorem skips_j0 (a n b : List Int) (w : Int) (ha : a.length ≤ 300) (hn : n.length ≤ 300) (hb : b.length ≤ 300) (h : clsd n 0 = true) : Ev (fun k => parquetrylaw10_BaseSkips.j0 k a n b w false) true := by
  have e1 : bits .and .i64 w 255 = w % 256 := band w 255 8 (by decide) (by decide)
  have e2 : Int.tmod (w % 256) 3 = (w % 256) % 3 := Int.tmod_eq_emod_of_nonneg (by omega)
  have hc : ini (19 + (w % 256) % 3) = true := by
    simp only [ini, Bool.or_eq_true, decide_eq_true_eq]
    omega
  refine Ev.succ ?_
  simp only [parquetrylaw10_BaseSkips.j0]
  rw [e1, e2, w64 (x := 19 + w % 256 % 3) (by omega) (by omega)]
  refine Ev.ifn (by decide) (Ev.bindc rfl (Ev.ifp (by simp; omega) (Ev.bindc rfl (Ev.ifp (by simp; omega) (Ev.bindc rfl (Ev.ifp (by simp; omega) (Ev.bindc rfl (Ev.ifp (by simp; omega) (Ev.bindc rfl (Ev.ifp (by simp; omega) (Ev.bindc rfl (Ev.ifp (by simp; omega) (Ev.bindc rfl (Ev.ifp (by simp; omega) ?_))))))))))))))
  refine Ev.bind (level_ev _ (by simp; omega)) (Ev.bind (level_ev _ (by simp; omega)) ?_)
  have hl : lev ([] ++ a ++ [19 + w % 256 % 3] ++ n ++ [22] ++ b) 0 = lev ([] ++ a ++ b) 0 := by
    have := lev_ahead a ((19 + w % 256 % 3) :: (n ++ 22 :: b)) b (fun d => lev_iso _ hc n b d h) 0
    simpa using this
  rw [hl]
  exact Ev.ifp rfl (Ev.ifp (by simp) (Ev.bind awake_ev (Ev.now _)))
theorem skips_t (a n b : List Int) (w : Int) : Ev (fun k => parquetrylaw10_BaseSkips.j0 k a n b w true) true := by
  refine Ev.succ ?_
  simp only [parquetrylaw10_BaseSkips.j0]
  exact Ev.ifp trivial (Ev.bind awake_ev (Ev.now _))
theorem BaseSkips : parquetrylaw10_BaseSkips.Pure := by
  intro a n b w h1 h2 h3 h4 h5 h6 h7 h8 h9 h10
  refine Ev.ex ?_
  unfold parquetrylaw10_BaseSkips.f
  by_cases ha : (a.length : Int) > 300
  · exact Ev.ifp ha (skips_t a n b w)
  · refine Ev.ifn ha ?_
    by_cases hn : (n.length : Int) > 300
    · exact Ev.ifp hn (skips_t a n b w)
    · refine Ev.ifn hn ?_
      by_cases hb : (b.length : Int) > 300
      · exact Ev.ifp hb (skips_t a n b w)
      · refine Ev.ifn hb (Ev.bind (closed_ev n (by omega)) ?_)
        cases hc : clsd n 0 with
        | true => exact skips_j0 a n b w (by omega) (by omega) (by omega) hc
        | false => exact skips_t a n b w
end Go.Proofs.Ytekllnpmioinfaa.Pure
