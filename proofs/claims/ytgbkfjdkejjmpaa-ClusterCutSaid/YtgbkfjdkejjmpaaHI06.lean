/- The plain law of chapter 1's lists of runes: how they lie, what the text of numbers is, where a list of bytes may be cut; and what runes.Valid, runes.Place, runes.Text answer. Conditions: texts below 2^30 bytes. -/
import Derived.Test.YtgbkfjdkejjmpaaHA06
namespace Go.Proofs.Ytgbkfjdkejjmpaa.PC06.Q01
open Go.Proofs.Ytgbkfjdkejjmpaa.PC06
open Go.RowKit Go.Proofs.YtgbkfjdkejjmpaaW.PrintWords Go.Proofs.YtgbkfjdkejjmpaaW.PrintLast Go.Proofs.YtgbkfjdkejjmpaaW.PrintMore Go.Proofs.YtgbkfjdkejjmpaaH Go.Proofs.YtgbkfjdkejjmpaaU
set_option linter.unusedVariables false
set_option linter.unusedSimpArgs false

/-- Runes follow one another from a place to another one. -/
def Chain : Int → List Rn → Int → Prop
  | p, [], e => p = e
  | p, x :: xs, e => x.f0 = p ∧ 1 ≤ x.f1 ∧ x.f1 ≤ 4 ∧ 0 ≤ x.f2 ∧ x.f2 ≤ 1114111 ∧ Chain (p + x.f1) xs e
theorem runesL_cons (n : Nat) (l : List UInt8) (hne : l ≠ []) (p : Nat) : runesL (n + 1) l p = (⟨(p : Int), ((decL l).2 : Int), ((decL l).1 : Int)⟩ : Rn) :: runesL n (l.drop (decL l).2) (p + (decL l).2) := by
  simp only [runesL, if_neg hne]
theorem chain_runes : ∀ (n : Nat) (l : List UInt8) (p : Nat), l.length ≤ n → Chain (p : Int) (runesL n l p) ((p + l.length : Nat) : Int)
  | 0, l, p, h => by
    obtain rfl : l = [] := List.eq_nil_of_length_eq_zero (by omega)
    simp [runesL, Chain]
  | n + 1, l, p, h => by
    by_cases hne : l = []
    · subst hne
      rw [runesL_nil]
      simp [Chain]
    · rw [runesL_cons n l hne]
      obtain ⟨d1, d2, d3, d4⟩ := decL_size l hne
      have := chain_runes n (l.drop (decL l).2) (p + (decL l).2) (by rw [List.length_drop]; omega)
      rw [List.length_drop, show p + (decL l).2 + (l.length - (decL l).2) = p + l.length by omega] at this
      unfold okN at d4
      refine ⟨rfl, by show 1 ≤ ((decL l).2 : Int); omega, by show ((decL l).2 : Int) ≤ 4; omega, by show 0 ≤ ((decL l).1 : Int); omega, by show ((decL l).1 : Int) ≤ 1114111; omega, ?_⟩
      have e : (p : Int) + ((decL l).2 : Int) = ((p + (decL l).2 : Nat) : Int) := by omega
      show Chain ((p : Int) + ((decL l).2 : Int)) _ _
      rw [e]
      exact this
theorem chain_le : ∀ (xs : List Rn) (p e : Int), Chain p xs e → p + xs.length ≤ e
  | [], p, e, h => by simp [Chain] at h; simp; omega
  | x :: xs, p, e, h => by
    obtain ⟨h1, h2, h3, h4, h5, h6⟩ := h
    have := chain_le xs _ _ h6
    simp only [List.length_cons]
    omega
theorem chain_gt : ∀ (xs : List Rn) (p e : Int), Chain p xs e → ∀ y ∈ xs, p ≤ y.f0
  | [], p, e, h, y, hy => by simp at hy
  | x :: xs, p, e, h, y, hy => by
    obtain ⟨h1, h2, h3, h4, h5, h6⟩ := h
    rcases List.mem_cons.1 hy with rfl | hy
    · omega
    · have := chain_gt xs _ _ h6 y hy
      omega
theorem chain_of (l : List UInt8) : Chain 0 (runesOf l) (l.length : Int) := by
  have := chain_runes l.length l 0 (Nat.le_refl _)
  simpa [runesOf] using this
theorem runesOf_len (l : List UInt8) : (runesOf l).length ≤ l.length := by
  have := chain_le _ _ _ (chain_of l)
  omega
end Go.Proofs.Ytgbkfjdkejjmpaa.PC06.Q01
