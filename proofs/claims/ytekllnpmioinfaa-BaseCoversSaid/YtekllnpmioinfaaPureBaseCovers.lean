/- BaseCovers: paragraphs end at rising places, the last one behind the last rune; behind one more paragraph they are the same (the pure statement over the printed Lean functions). Conditions: those of the statement. -/
import Derived.Test.YtekllnpmioinfaaPC10x11
import Derived.Test.YtekllnpmioinfaaHG10
namespace Go.Proofs.Ytekllnpmioinfaa.Pure
open Go.RowKit Go.Proofs.Ytekllnpmioinfaa.PC10 Go.Proofs.YtekllnpmioinfaaW.PrintWords Go.Proofs.YtekllnpmioinfaaW.PrintLast Go.Proofs.YtekllnpmioinfaaH
set_option linter.unusedVariables false

theorem parE_up : ∀ (r : List Int) (i : Int), parE r (i + 1) = (parE r i).map (· + 1)
  | [], i => rfl
  | c :: r, i => by
    unfold parE
    rw [parE_up r (i + 1)]
    split <;> rfl
/-- Places that rise from behind one on, up to another one. -/
def Rise (a : Int) (n : Int) : List Int → Prop
  | [] => a = n
  | p :: ps => a < p ∧ Rise p n ps
theorem rise_par : ∀ (r : List Int) (a i : Int), a ≤ i → (r = [] → a = i) → Rise a (i + r.length) (parE r i)
  | [], a, i, h, h2 => by
    have := h2 rfl
    simp only [parE, Rise, List.length_nil]
    omega
  | c :: r, a, i, h, h2 => by
    unfold parE
    have e : i + ((c :: r).length : Int) = (i + 1) + (r.length : Int) := by simp only [List.length_cons]; omega
    rw [e]
    by_cases he : ends c r = true
    · rw [if_pos he]
      exact ⟨by omega, rise_par r (i + 1) (i + 1) (by omega) (fun _ => rfl)⟩
    · rw [if_neg he]
      refine rise_par r a (i + 1) (by omega) (fun hr => ?_)
      subst hr
      exact absurd (by simp [ends]) he
theorem rise_bound : ∀ (ps : List Int) (a n : Int), Rise a n ps → a ≤ n ∧ ∀ p ∈ ps, p ≤ n
  | [], a, n, h => by
    have : a = n := h
    exact ⟨by omega, by simp⟩
  | p :: ps, a, n, h => by
    obtain ⟨h1, h2⟩ := h
    have := rise_bound ps p n h2
    refine ⟨by omega, fun q hq => ?_⟩
    rcases List.mem_cons.1 hq with rfl | hq
    · exact this.1
    · exact this.2 q hq
theorem covers_l0 (l : List RN) (p : List Int) (n : Nat) (hl : l.length = n) (hn : n ≤ 1000) (hpl : p.length < 1000000) (hp0 : ∀ x ∈ p, 0 ≤ x ∧ x ≤ n) : ∀ (ps pre : List Int) (a : Int), p = pre ++ ps → Rise a (n : Int) ps → Ev (fun k => parquetrylaw10_BaseCovers.l0 k l p (1 :: p.map (· + 1)) a (pre.length : Int)) true
  | [], pre, a, h, hr => by
    have hr : a = (n : Int) := hr
    refine Ev.succ ?_
    simp only [parquetrylaw10_BaseCovers.l0]
    exact Ev.ifn (by rw [h]; simp) (Ev.ifp (by omega) (Ev.bind awake_ev (Ev.now _)))
  | x :: ps, pre, a, h, hr => by
    obtain ⟨h1, h2⟩ := hr
    have hlen : p.length = pre.length + (ps.length + 1) := by rw [h]; simp
    have hrd : rd p (pre.length : Int) = x := by rw [h]; exact rd_mid pre x ps
    have hx := hp0 x (by rw [h]; simp)
    have hrq : rd (1 :: p.map (· + 1)) ((pre.length : Int) + 1) = x + 1 := by
      have := rd_mid (1 :: pre.map (· + 1)) (x + 1) (ps.map (· + 1))
      rw [show (1 :: pre.map (· + 1)) ++ (x + 1) :: ps.map (· + 1) = 1 :: p.map (· + 1) from by rw [h]; simp] at this
      rw [← this]
      congr 1
      simp
    have e1 : wrap64 ((pre.length : Int) + 1) = (pre.length : Int) + 1 := w64 (by omega) (by omega)
    refine Ev.succ ?_
    simp only [parquetrylaw10_BaseCovers.l0]
    rw [hrd, e1, hrq, w64 (x := x + 1) (by omega) (by omega)]
    refine Ev.ifp (by omega) (Ev.ifp (by omega) (Ev.ifn (by omega) (Ev.ifp (by omega) (Ev.ifp (by simp; omega) (Ev.ifp rfl ?_)))))
    rw [show (pre.length : Int) + 1 = ((pre ++ [x]).length : Int) from by simp]
    exact covers_l0 l p n hl hn hpl hp0 ps (pre ++ [x]) x (by rw [h]; simp) h2
theorem isB_2029 : isB 8233 = true := by decide +kernel
theorem BaseCovers : parquetrylaw10_BaseCovers.Pure := by
  intro l h1 h2 h3
  refine Ev.ex ?_
  unfold parquetrylaw10_BaseCovers.f
  by_cases hl : (l.length : Int) > 1000
  · exact Ev.ifp hl (Ev.bind awake_ev (Ev.now _))
  · have hc : (codes l).length = l.length := by simp [codes]
    have hq : parE (codes ([(⟨0, 3, 8233⟩ : RN)] ++ l)) 0 = 1 :: (parE (codes l) 0).map (· + 1) := by
      show (if ends 8233 (codes l) = true then (0 + 1) :: parE (codes l) (0 + 1) else parE (codes l) (0 + 1)) = _
      rw [if_pos (by unfold ends; rw [isB_2029]; rfl), parE_up (codes l) 0]
      rfl
    have hp := parE_len (codes l) 0
    have hr := rise_par (codes l) 0 0 (by omega) (fun _ => rfl)
    have hb := rise_bound _ _ _ hr
    have hr0 : ∀ (ps : List Int) (a : Int), Rise a (l.length : Int) ps → 0 ≤ a → ∀ x ∈ ps, 0 ≤ x := fun ps => by
      induction ps with
      | nil => intro a _ _ x hx; simp at hx
      | cons p ps ih =>
        intro a ha h0 x hx
        obtain ⟨q1, q2⟩ := ha
        rcases List.mem_cons.1 hx with rfl | hx
        · omega
        · exact ih p q2 (by omega) x hx
    rw [hc] at hr hb
    rw [Int.zero_add] at hr hb
    refine Ev.ifn hl (Ev.bind (par_ev l (by omega)) (Ev.bindc rfl (Ev.ifp (by simp; omega) (Ev.bind (par_ev _ (by simp; omega)) ?_))))
    rw [hq]
    refine Ev.ifp (by rw [w64 (by omega) (by omega)]; simp) (Ev.ifn (by simp <;> omega) (Ev.ifp (by simp <;> omega) (Ev.succ ?_)))
    simp only [parquetrylaw10_BaseCovers.j0]
    refine Ev.ifn (by simp [rd]) ?_
    have := covers_l0 l (parE (codes l) 0) l.length rfl (by omega) (by omega) (fun x hx => ⟨hr0 _ 0 hr (by omega) x hx, hb.2 x hx⟩) (parE (codes l) 0) [] 0 rfl hr
    exact this
end Go.Proofs.Ytekllnpmioinfaa.Pure
