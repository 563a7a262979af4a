/- The plain law of chapter 5: the kinds of code points are the document's, and the runs of code points. Conditions: whole numbers of 64 bits; at most 1000 of them in a row. -/
import Derived.Test.YtgbkfjdkejjmpaaPC06x3
import Derived.Test.YtgbkfjdkejjmpaaPC06x3
import Derived.Test.YtgbkfjdkejjmpaaPC06x6
import Derived.Test.YtgbkfjdkejjmpaaPC06x6
import Derived.Test.YtgbkfjdkejjmpaaHRnd
namespace Go.Proofs.Ytgbkfjdkejjmpaa.PC06.Q05
open Go.Proofs.Ytgbkfjdkejjmpaa.PC06
open Go.RowKit Go.Proofs.YtgbkfjdkejjmpaaW.PrintWords Go.Proofs.YtgbkfjdkejjmpaaW.PrintLast Go.Proofs.YtgbkfjdkejjmpaaW.PrintMore Go.Proofs.YtgbkfjdkejjmpaaH
set_option linter.unusedVariables false
set_option linter.unusedSimpArgs false

/-- A number's kind; whether it is a pictograph. -/
def gk (c : Int) : Int := gcb_Of.val c
def pk (c : Int) : Bool := gcb_Pict.oddIn gcb_Pict.L c
def rng (c : Int) : Prop := -9223372036854775808 ≤ c ∧ c ≤ 9223372036854775807
theorem of_eq (c : Int) (h : rng c) : gcb_Of.f c = some (gk c) := if_pos h
theorem pict_eq (c : Int) : gcb_Pict.f c = some (pk c) := rfl
theorem kd_rnd (S : List Int) (d c : Int) (hS : rup S d = true) : ∀ (l : List gcb_Of.Row) (k0 : Int), (l.all fun r => S.contains r.f) = true → gcb_Of.kd l k0 c = gcb_Of.kd l k0 (rnd S d c)
  | [], k0, _ => rfl
  | r :: l, k0, h => by
    simp only [List.all_cons, Bool.and_eq_true, List.contains_iff_mem] at h
    have h1 := rnd_iff S d c hS r.f h.1
    unfold gcb_Of.kd
    by_cases h2 : r.f ≤ c
    · rw [if_pos h2, if_pos (h1.1 h2)]
      exact kd_rnd S d c hS l r.k h.2
    · rw [if_neg h2, if_neg (fun h3 => h2 (h1.2 h3))]
def rowT (t : Int) : List Int := (parquetryref05_Row.f t).getD []
theorem row_eq (t : Int) : parquetryref05_Row.f t = some (rowT t) := by
  unfold rowT parquetryref05_Row.f
  repeat (first | rfl | split)
def refF : Nat → Int → Int → Int
  | 0, _, _ => 0
  | n + 1, t, c => if inSp (rowT t) c = true then t else refF n (t + 1) c
def ends : List Int := gcb_Of.rowsL.map fun r => r.f
set_option maxRecDepth 100000 in
theorem ends_up : rup ends (-1) = true := by decide +kernel
set_option maxRecDepth 100000 in
theorem ends_all : (gcb_Of.rowsL.all fun r => ends.contains r.f) = true := by decide +kernel
def rowsIn : Nat → Int → Bool
  | 0, _ => true
  | n + 1, t => spIn ends (rowT t) && decide ((rowT t).length % 2 = 0) && decide ((rowT t).length < 1000000) && rowsIn n (t + 1)
set_option maxRecDepth 100000 in
theorem rows_in : rowsIn 11 1 = true := by decide +kernel
theorem refF_rnd : ∀ (n : Nat) (t c : Int), rowsIn n t = true → refF n t c = refF n t (rnd ends (-1) c)
  | 0, _, _, _ => rfl
  | n + 1, t, c, h => by
    simp only [rowsIn, Bool.and_eq_true] at h
    unfold refF
    rw [← inSp_rnd ends (-1) c ends_up _ h.1.1.1, ← refF_rnd n (t + 1) c h.2]
set_option maxRecDepth 100000 in
theorem kinds_at : ∀ x ∈ (-1) :: ends, gcb_Of.kd gcb_Of.rowsL 0 x = refF 11 1 x := by decide +kernel
theorem kinds_eq (c : Int) : gcb_Of.kd gcb_Of.rowsL 0 c = refF 11 1 c := by
  rw [kd_rnd ends (-1) c ends_up _ _ ends_all, refF_rnd 11 1 c rows_in]
  exact kinds_at _ (rnd_mem _ _ _)
theorem in_l0 (R : List Int) (hR : R.length < 1000000) (c : Int) : ∀ (r pre : List Int), R = pre ++ r → r.length % 2 = 0 → Ev (fun k => parquetryref05_in.l0 k R c (pre.length : Int)) (inSp r c)
  | [], pre, h, he => by
    refine Ev.succ ?_
    simp only [parquetryref05_in.l0]
    exact Ev.ifn (by rw [h]; simp) (Ev.now _)
  | [_], pre, h, he => by simp at he
  | a :: b :: r, pre, h, he => by
    have hl : R.length = pre.length + (r.length + 2) := by rw [h]; simp
    have e1 : rd R (pre.length : Int) = a := by rw [h]; exact rd_mid pre a (b :: r)
    have e2 : rd R ((pre.length : Int) + 1) = b := by
      have := rd_mid (pre ++ [a]) b r
      rw [List.length_append, List.append_assoc] at this
      rw [h]
      simpa using this
    have ih := in_l0 R hR c r (pre ++ [a, b]) (by rw [h]; simp) (by simp only [List.length_cons] at he; omega)
    have e3 : wrap64 ((pre.length : Int) + 2) = ((pre ++ [a, b]).length : Int) := by rw [w64 (by omega) (by omega)]; simp
    refine Ev.succ ?_
    simp only [parquetryref05_in.l0]
    rw [e1, e3, w64 (x := (pre.length : Int) + 1) (by omega) (by omega), e2]
    simp only [inSp]
    refine Ev.ifp (by omega) (Ev.ifp (by omega) ?_)
    by_cases ha : a ≤ c
    · refine Ev.ifp ha (Ev.ifp (by omega) (Ev.ifp (by omega) ?_))
      by_cases hb : c ≤ b
      · exact Ev.ifp hb (Ev.val (Ev.now _) (by simp [ha, hb]))
      · exact Ev.ifn hb (Ev.val ih (by simp [ha, hb]))
    · exact Ev.ifn ha (Ev.val ih (by simp [ha]))
theorem in_ev (R : List Int) (hR : R.length < 1000000) (he : R.length % 2 = 0) (c : Int) : Ev (fun k => parquetryref05_in.f k R c) (inSp R c) := by
  unfold parquetryref05_in.f
  exact in_l0 R hR c R [] rfl he
theorem refOf_l1 (c : Int) : ∀ (n : Nat) (t : Int), 1 ≤ t → t + n = 12 → rowsIn n t = true → Ev (fun k => parquetryref05_Of.l1 k c t) (refF n t c)
  | 0, t, h1, h2, _ => by
    refine Ev.succ ?_
    simp only [parquetryref05_Of.l1]
    exact Ev.ifn (by omega) (Ev.now _)
  | n + 1, t, h1, h2, h => by
    simp only [rowsIn, Bool.and_eq_true, decide_eq_true_eq] at h
    have ih := refOf_l1 c n (t + 1) (by omega) (by omega) h.2
    refine Ev.succ ?_
    simp only [parquetryref05_Of.l1]
    refine Ev.ifp (by omega) (Ev.bindc (row_eq t) (Ev.bind (in_ev _ h.1.2 h.1.1.2 c) ?_))
    unfold refF
    by_cases hi : inSp (rowT t) c = true
    · exact Ev.ifp hi (Ev.val (Ev.now _) (by rw [if_pos hi]))
    · rw [if_neg hi, w64 (x := t + 1) (by omega) (by omega)]
      exact Ev.ifn hi ih
theorem refOf_l0 (c : Int) : ∀ (n : Nat) (x : Int), x = 55204 - 28 * (n : Int) → n ≤ 399 → (c < 44032 ∨ c > 55203 ∨ x ≤ c) → Ev (fun k => parquetryref05_Of.l0 k c x) (gk c)
  | 0, x, hx, hn, h => by
    refine Ev.succ ?_
    simp only [parquetryref05_Of.l0]
    refine Ev.ifn (by omega) (Ev.val (refOf_l1 c 11 1 (by omega) (by omega) rows_in) ?_)
    rw [← kinds_eq]
    unfold gk gcb_Of.val
    by_cases h0 : c < 0
    · rw [if_pos h0]
      have : gcb_Of.kd gcb_Of.rowsL 0 c = 0 := by
        unfold gcb_Of.rowsL gcb_Of.kd
        exact if_neg (by show ¬ (0 : Int) ≤ c; omega)
      exact this
    · rw [if_neg h0]
      unfold gcb_Of.kindV
      rw [if_pos (by omega)]
  | n + 1, x, hx, hn, h => by
    refine Ev.succ ?_
    simp only [parquetryref05_Of.l0]
    refine Ev.ifp (by omega) ?_
    have e : wrap64 (x + 28) = x + 28 := w64 (by omega) (by omega)
    have hgk : 44032 ≤ c → c ≤ 55203 → gk c = if (c - 44032) % 28 = 0 then 12 else 13 := fun h1 h2 => by
      unfold gk gcb_Of.val gcb_Of.kindV
      rw [if_neg (by omega), if_neg (by omega), Int.tmod_eq_emod_of_nonneg (by omega)]
    rw [e]
    by_cases h1 : c = x
    · refine Ev.ifp h1 (Ev.val (Ev.now _) ?_)
      rw [hgk (by omega) (by omega), if_pos (by omega)]
    · refine Ev.ifn h1 ?_
      by_cases h2 : c > x
      · refine Ev.ifp h2 ?_
        by_cases h3 : c < x + 28
        · refine Ev.ifp h3 (Ev.val (Ev.now _) ?_)
          rw [hgk (by omega) (by omega), if_neg (by omega)]
        · exact Ev.ifn h3 (refOf_l0 c n (x + 28) (by omega) (by omega) (by omega))
      · exact Ev.ifn h2 (refOf_l0 c n (x + 28) (by omega) (by omega) (by omega))
theorem refOf_ev (c : Int) : Ev (fun k => parquetryref05_Of.f k c) (gk c) := by
  unfold parquetryref05_Of.f
  exact refOf_l0 c 399 44032 (by omega) (by omega) (by omega)
/-! pictographs -/
def pR : List Int := parquetryref05_Picts.L
theorem oddIn_rnd (S : List Int) (d c : Int) (hS : rup S d = true) (l : List Int) (h : (l.all fun x => S.contains x) = true) : gcb_Pict.oddIn l c = gcb_Pict.oddIn l (rnd S d c) := by
  unfold gcb_Pict.oddIn
  rw [List.countP_congr (q := fun x => decide (x ≤ rnd S d c))]
  intro x hx
  have := List.all_eq_true.1 h x hx
  rw [List.contains_iff_mem] at this
  have := rnd_iff S d c hS x this
  simp only [decide_eq_true_eq]
  exact this
set_option maxRecDepth 100000 in
theorem picts_up : rup gcb_Pict.L 0 = true := by decide +kernel
set_option maxRecDepth 100000 in
theorem picts_in : spIn gcb_Pict.L pR = true := by decide +kernel
set_option maxRecDepth 100000 in
theorem picts_all : (gcb_Pict.L.all fun x => gcb_Pict.L.contains x) = true := by decide +kernel
set_option maxRecDepth 100000 in
theorem picts_at : ∀ x ∈ 0 :: gcb_Pict.L, gcb_Pict.oddIn gcb_Pict.L x = inSp pR x := by decide +kernel
theorem refPict_ev (c : Int) : Ev (fun k => parquetryref05_Pict.f k c) (pk c) := by
  unfold parquetryref05_Pict.f
  refine Ev.bindc (show parquetryref05_Picts.f = some pR from rfl) (Ev.bind (in_ev pR (by decide +kernel) (by decide +kernel) c) (Ev.val (Ev.now _) ?_))
  unfold pk
  rw [oddIn_rnd _ 0 c picts_up _ picts_all, inSp_rnd _ 0 c picts_up _ picts_in]
  exact (picts_at _ (rnd_mem _ _ _)).symm
end Go.Proofs.Ytgbkfjdkejjmpaa.PC06.Q05
