/- The plain law of chapter 10, the document's side: where an isolate ends. Conditions: at most 10^6 classes. -/
import Derived.Test.YtekllnpmioinfaaPC10x17
import Derived.Test.YtekllnpmioinfaaHP10
namespace Go.Proofs.Ytekllnpmioinfaa.PC10
open Go.RowKit Go.Proofs.YtekllnpmioinfaaW.PrintWords Go.Proofs.YtekllnpmioinfaaW.PrintLast Go.Proofs.YtekllnpmioinfaaW.PrintMore Go.Proofs.YtekllnpmioinfaaH
set_option linter.unusedVariables false
set_option linter.unusedSimpArgs false

theorem initiator_eq (c : Int) : parquetryref10_Initiator.f c = some (ini c) := by
  unfold parquetryref10_Initiator.f ini
  by_cases h1 : c ≥ 19
  · rw [if_pos h1]
    congr 1
    rw [Bool.eq_iff_iff]
    simp only [Bool.or_eq_true, decide_eq_true_eq]
    omega
  · rw [if_neg h1]
    congr 1
    have : ¬ (c = 19 ∨ c = 20 ∨ c = 21) := by omega
    simp only [not_or] at this
    simp [this]
def endV (l : List Int) (i : Nat) (o : Option Nat) : Int := match o with | some e => ((i + e : Nat) : Int) | none => (l.length : Int)
theorem end_l0 (l : List Int) (hl : l.length < 1000000) : ∀ (r pre : List Int) (d : Nat), l = pre ++ r → d ≤ pre.length → Ev (fun k => parquetryref10_End.l0 k l (d : Int) (pre.length : Int)) (endV l pre.length (clo r d))
  | [], pre, d, h, hd => by
    refine Ev.succ ?_
    simp only [parquetryref10_End.l0]
    exact Ev.ifn (by rw [h]; simp) (Ev.now _)
  | c :: r, pre, d, h, hd => by
    have hlen : l.length = pre.length + (r.length + 1) := by rw [h]; simp
    have hrd : rd l (pre.length : Int) = c := by rw [h]; exact rd_mid pre c r
    have ih := fun d hd => end_l0 l hl r (pre ++ [c]) d (by rw [h]; simp) hd
    have hm : ∀ o : Option Nat, endV l (pre ++ [c]).length o = endV l pre.length (o.map (· + 1)) := fun o => by
      cases o with
      | none => rfl
      | some e => simp [endV]; omega
    have e1 : wrap64 ((pre.length : Int) + 1) = ((pre ++ [c]).length : Int) := by rw [w64 (by omega) (by omega)]; simp
    refine Ev.succ ?_
    simp only [parquetryref10_End.l0]
    rw [hrd]
    refine Ev.ifp (by omega) (Ev.ifp (by omega) ?_)
    by_cases h22 : c = 22
    · subst h22
      refine Ev.ifp rfl (Ev.succ ?_)
      simp only [parquetryref10_End.j1]
      rw [hrd, e1]
      cases d with
      | zero => exact Ev.ifp rfl (Ev.val (Ev.now _) (by simp [endV, clo]))
      | succ d =>
        have := ih d (by simp; omega)
        rw [hm, ← clo_s] at this
        refine Ev.ifn (by simp; omega) (Ev.ifp (by omega) (Ev.ifp (by omega) (Ev.ifp rfl (Ev.bindc (initiator_eq 22) (Ev.ifn (by decide) ?_)))))
        rw [w64 (x := ((d + 1 : Nat) : Int) - 1) (by omega) (by omega), show ((d + 1 : Nat) : Int) - 1 = (d : Int) from by omega]
        exact this
    · refine Ev.ifn h22 (Ev.succ ?_)
      simp only [parquetryref10_End.j1]
      rw [hrd, e1]
      refine Ev.ifn (by decide) (Ev.ifp (by omega) (Ev.ifp (by omega) (Ev.ifn h22 (Ev.bindc (initiator_eq c) ?_))))
      rw [clo_c c r d h22]
      by_cases hi : ini c = true
      · rw [if_pos hi, w64 (x := (d : Int) + 1) (by omega) (by omega)]
        have := ih (d + 1) (by simp; omega)
        rw [hm, show ((d + 1 : Nat) : Int) = (d : Int) + 1 from by omega] at this
        exact Ev.ifp hi this
      · rw [if_neg hi]
        have := ih d (by simp; omega)
        rw [hm] at this
        exact Ev.ifn hi this
theorem end_ev (l : List Int) (hl : l.length < 1000000) (i : Nat) (hi : i < l.length) : Ev (fun k => parquetryref10_End.f k l (i : Int)) (endOf l i : Int) := by
  unfold parquetryref10_End.f
  have h2 : (l.take (i + 1)).length = i + 1 := by rw [List.length_take]; omega
  have := end_l0 l hl (l.drop (i + 1)) (l.take (i + 1)) 0 (List.take_append_drop _ _).symm (by omega)
  rw [h2] at this
  rw [w64 (x := (i : Int) + 1) (by omega) (by omega), show (i : Int) + 1 = ((i + 1 : Nat) : Int) from by omega]
  refine Ev.val this ?_
  unfold endV endOf
  cases clo (l.drop (i + 1)) 0 <;> rfl
end Go.Proofs.Ytekllnpmioinfaa.PC10
