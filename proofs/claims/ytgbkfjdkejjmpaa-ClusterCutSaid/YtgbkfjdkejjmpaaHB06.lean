/- The plain law of chapter 4: the numbers of slots that cols.Of tells are the document's; how many numbers take together. Conditions: at most 10^9 numbers. -/
import Derived.Test.YtgbkfjdkejjmpaaPC06x3
import Derived.Test.YtgbkfjdkejjmpaaPC06x9
import Derived.Test.YtgbkfjdkejjmpaaHEv
namespace Go.Proofs.Ytgbkfjdkejjmpaa.PC06.Q04
open Go.Proofs.Ytgbkfjdkejjmpaa.PC06
open Go.RowKit Go.Proofs.YtgbkfjdkejjmpaaW.PrintWords Go.Proofs.YtgbkfjdkejjmpaaW.PrintLast Go.Proofs.YtgbkfjdkejjmpaaW.PrintMore Go.Proofs.YtgbkfjdkejjmpaaH
set_option linter.unusedVariables false
set_option linter.unusedSimpArgs false

def inL : List Int → Int → Bool
  | a :: b :: r, c => (decide (a ≤ c) && decide (c ≤ b)) || inL r c
  | _, _ => false
def half : List Int → List Int
  | a :: b :: r => a :: (b + 1) :: half r
  | _ => []
def up : List Int → Bool
  | a :: b :: r => decide (a < b) && up (b :: r)
  | _ => true
theorem up_gt : ∀ (r : List Int) (a : Int), up (a :: r) = true → ∀ x ∈ r, a < x
  | [], a, _, x, hx => by simp at hx
  | b :: r, a, h, x, hx => by
    simp only [up, Bool.and_eq_true, decide_eq_true_eq] at h
    rcases List.mem_cons.1 hx with rfl | hx
    · exact h.1
    · have := up_gt r b h.2 x hx
      omega
theorem up_tail (a : Int) (r : List Int) (h : up (a :: r) = true) : up r = true := by
  cases r with
  | nil => rfl
  | cons b r => simp only [up, Bool.and_eq_true] at h; exact h.2
theorem count_none (l : List Int) (c : Int) (h : ∀ x ∈ l, c < x) : l.countP (fun x => decide (x ≤ c)) = 0 := by
  rw [List.countP_eq_zero]
  intro x hx
  have := h x hx
  simp
  omega
theorem count_all (l : List Int) (c : Int) (h : ∀ x ∈ l, x ≤ c) : l.countP (fun x => decide (x ≤ c)) = l.length := by
  rw [List.countP_eq_length]
  intro x hx
  exact decide_eq_true (h x hx)
theorem odd_half : ∀ (l : List Int) (c : Int), up (half l) = true → cols_Of.oddIn (half l) c = inL l c
  | a :: b :: r, c, h => by
    have h2 := up_tail _ _ h
    have h3 := up_tail _ _ h2
    have hab := up_gt _ _ h (b + 1) (by simp)
    have ih := odd_half r c h3
    have g1 : ∀ x ∈ half r, b + 1 < x := up_gt _ _ h2
    unfold cols_Of.oddIn at ih ⊢
    simp only [half, inL, List.countP_cons]
    by_cases h4 : c < a
    · have e := count_none (half r) c (fun x hx => by have := g1 x hx; omega)
      rw [e] at ih ⊢
      rw [← ih]
      simp [show ¬ a ≤ c by omega, show ¬ b + 1 ≤ c by omega]
    · by_cases h5 : c < b + 1
      · have e := count_none (half r) c (fun x hx => by have := g1 x hx; omega)
        rw [e]
        simp [show a ≤ c by omega, show ¬ b + 1 ≤ c by omega, show c ≤ b by omega]
      · simp only [show a ≤ c by omega, show b + 1 ≤ c by omega, show ¬ c ≤ b by omega, decide_true, decide_false, if_true, Bool.and_false, Bool.false_or]
        rw [← ih]
        congr 1
        omega
  | [_], c, h => rfl
  | [], c, h => rfl
theorem in_l0 (R : List Int) (hR : R.length < 1000000) (c : Int) : ∀ (r pre : List Int), R = pre ++ r → r.length % 2 = 0 → Ev (fun k => parquetryref04_in.l0 k R c (pre.length : Int)) (inL r c)
  | [], pre, h, he => by
    refine Ev.succ ?_
    simp only [parquetryref04_in.l0]
    exact Ev.ifn (by rw [h]; simp) (Ev.now _)
  | [_], pre, h, he => by simp at he
  | a :: b :: r, pre, h, he => by
    have hl : R.length = pre.length + (r.length + 2) := by rw [h]; simp
    have e1 : rd R (pre.length : Int) = a := by
      unfold rd
      rw [Int.toNat_natCast, h, List.getD_eq_getElem?_getD, List.getElem?_append_right (Nat.le_refl _), Nat.sub_self]
      rfl
    have e2 : rd R ((pre.length : Int) + 1) = b := by
      unfold rd
      rw [show ((pre.length : Int) + 1).toNat = pre.length + 1 by omega, h, List.getD_eq_getElem?_getD, List.getElem?_append_right (by omega), show pre.length + 1 - pre.length = 1 by omega]
      rfl
    have ih := in_l0 R hR c r (pre ++ [a, b]) (by rw [h]; simp) (by simp only [List.length_cons] at he; omega)
    have e3 : wrap64 ((pre.length : Int) + 2) = ((pre ++ [a, b]).length : Int) := by rw [w64 (by omega) (by omega)]; simp
    refine Ev.succ ?_
    simp only [parquetryref04_in.l0]
    rw [e1, e3, w64 (x := (pre.length : Int) + 1) (by omega) (by omega), e2]
    simp only [inL]
    refine Ev.ifp (by omega) (Ev.ifp (by omega) ?_)
    by_cases ha : a ≤ c
    · refine Ev.ifp ha (Ev.ifp (by omega) (Ev.ifp (by omega) ?_))
      by_cases hb : c ≤ b
      · exact Ev.ifp hb (Ev.val (Ev.now _) (by simp [ha, hb]))
      · exact Ev.ifn hb (Ev.val ih (by simp [ha, hb]))
    · exact Ev.ifn ha (Ev.val ih (by simp [ha]))
def narrowR : List Int := (parquetryref04_Narrow.f).getD []
def wideR : List Int := (parquetryref04_Wide.f).getD []
set_option maxRecDepth 100000 in
theorem half_narrow : half narrowR = cols_Of.narrowL := by decide +kernel
set_option maxRecDepth 100000 in
theorem half_wide : half wideR = cols_Of.wideL := by decide +kernel
/-- How many slots a number takes. -/
def colsV (c : Int) : Int := if cols_Of.oddIn cols_Of.narrowL c = true then 0 else if cols_Of.oddIn cols_Of.wideL c = true then 2 else 1
theorem of_eq (c : Int) : cols_Of.f c = some (colsV c) := rfl
theorem colsV_range (c : Int) : 0 ≤ colsV c ∧ colsV c ≤ 2 := by
  unfold colsV
  split
  · omega
  · split <;> omega
set_option maxRecDepth 100000 in
theorem refOf_ev (c : Int) : Ev (fun k => parquetryref04_Of.f k c) (colsV c) := by
  have h1 : cols_Of.oddIn cols_Of.narrowL c = inL narrowR c := by rw [← half_narrow]; exact odd_half narrowR c (by decide +kernel)
  have h2 : cols_Of.oddIn cols_Of.wideL c = inL wideR c := by rw [← half_wide]; exact odd_half wideR c (by decide +kernel)
  unfold parquetryref04_Of.f colsV
  rw [h1, h2]
  refine Ev.bindc (show parquetryref04_Narrow.f = some narrowR from rfl) ?_
  unfold parquetryref04_in.f
  refine Ev.bind (in_l0 narrowR (by decide +kernel) c narrowR [] rfl (by decide +kernel)) ?_
  by_cases hn : inL narrowR c = true
  · exact Ev.ifp hn (Ev.val (Ev.now _) (by rw [if_pos hn]))
  · refine Ev.ifn hn (Ev.bindc (show parquetryref04_Wide.f = some wideR from rfl) (Ev.bind (in_l0 wideR (by decide +kernel) c wideR [] rfl (by decide +kernel)) ?_))
    rw [if_neg hn]
    by_cases hw : inL wideR c = true
    · exact Ev.ifp hw (Ev.val (Ev.now _) (by rw [if_pos hw]))
    · exact Ev.ifn hw (Ev.val (Ev.now _) (by rw [if_neg hw]))
end Go.Proofs.Ytgbkfjdkejjmpaa.PC06.Q04
