/- Chapter 17: the classes that the document tells are the program's. Conditions: none. -/
import Derived.Test.YtieffcjbbhigbaaPC17x3
import Derived.Test.YtieffcjbbhigbaaPC17x11
import Derived.Test.YtieffcjbbhigbaaHRnd
import Derived.Test.YtieffcjbbhigbaaHEv
namespace Go.Proofs.Ytieffcjbbhigbaa.PC17
open Go.RowKit Go.Proofs.YtieffcjbbhigbaaW.PrintWords Go.Proofs.YtieffcjbbhigbaaW.PrintLast Go.Proofs.YtieffcjbbhigbaaW.PrintMore Go.Proofs.YtieffcjbbhigbaaH
set_option linter.unusedVariables false
set_option linter.unusedSimpArgs false

abbrev RW := S76
def tab : List RW := (parquetryref02_Table.f).getD []
def refT : List RW → Int → Int
  | [], _ => 0
  | r :: l, c => if inSp r.f1 c = true then r.f0 else refT l c
def dd : List Int → List Int
  | a :: b :: r => if a = b then dd (b :: r) else a :: dd (b :: r)
  | l => l
def ends2 : List Int := dd (class_spans.L.flatMap fun r => [r.f0, r.f1 + 1])
set_option maxRecDepth 100000 in
theorem ends2_up : rup ends2 (-1) = true := by decide +kernel
set_option maxRecDepth 100000 in
theorem ends2_prog : (class_spans.L.all fun r => ends2.contains r.f0 && ends2.contains (r.f1 + 1)) = true := by decide +kernel
set_option maxRecDepth 100000 in
theorem ends2_ref : (tab.all fun r => spIn ends2 r.f1 && (decide (r.f1.length % 2 = 0) && decide (r.f1.length < 1000000))) = true := by decide +kernel
theorem tab_len : tab.length < 1000 := by decide +kernel
theorem spn_rnd (c : Int) : ∀ l : List (S70), (l.all fun r => ends2.contains r.f0 && ends2.contains (r.f1 + 1)) = true → class_Of.spn l c = class_Of.spn l (rnd ends2 (-1) c)
  | [], _ => rfl
  | r :: l, h => by
    simp only [List.all_cons, Bool.and_eq_true, List.contains_iff_mem] at h
    have h1 := rnd_iff ends2 (-1) c ends2_up _ h.1.1
    have h2 := rnd_iff ends2 (-1) c ends2_up _ h.1.2
    unfold class_Of.spn
    rw [spn_rnd c l h.2]
    by_cases h3 : r.f1 < c
    · rw [if_pos h3, if_pos (show r.f1 < rnd ends2 (-1) c by omega)]
    · rw [if_neg h3, if_neg (show ¬ r.f1 < rnd ends2 (-1) c by omega)]
      by_cases h4 : c < r.f0
      · rw [if_pos h4, if_pos (show rnd ends2 (-1) c < r.f0 by omega)]
      · rw [if_neg h4, if_neg (show ¬ rnd ends2 (-1) c < r.f0 by omega)]
theorem refT_rnd (c : Int) : ∀ l : List RW, (l.all fun r => spIn ends2 r.f1 && (decide (r.f1.length % 2 = 0) && decide (r.f1.length < 1000000))) = true → refT l c = refT l (rnd ends2 (-1) c)
  | [], _ => rfl
  | r :: l, h => by
    simp only [List.all_cons, Bool.and_eq_true] at h
    unfold refT
    rw [← inSp_rnd ends2 (-1) c ends2_up _ h.1.1, ← refT_rnd c l (by simpa using h.2)]
set_option maxRecDepth 100000 in
theorem classes_at : ∀ x ∈ (-1) :: ends2, class_Of.spn class_spans.L x = refT tab x := by decide +kernel
theorem classes_eq (c : Int) : class_Of.val c = refT tab c := by
  unfold class_Of.val
  rw [spn_rnd c _ ends2_prog, refT_rnd c _ ends2_ref]
  exact classes_at _ (rnd_mem _ _ _)
theorem rdW_mid (pre : List RW) (x : RW) (r : List RW) : rd_T76 (pre ++ x :: r) (pre.length : Int) = x := by
  unfold rd_T76
  rw [Int.toNat_natCast, List.getD_eq_getElem?_getD, List.getElem?_append_right (Nat.le_refl _), Nat.sub_self]
  rfl
theorem ref_l1 (c : Int) (T : List RW) (i : Nat) (hi : i < T.length) (v : Int) (R : List Int) (hR : R.length < 1000000) (hrow : (rd_T76 T (i : Int)).f0 = v) (rest : Int) (hT : T.length < 1000)
    (hnext : Ev (fun k => parquetryref02_Of.l0 k c T ((i + 1 : Nat) : Int)) rest) : ∀ (r pre : List Int), R = pre ++ r → r.length % 2 = 0 → Ev (fun k => parquetryref02_Of.l1 k c T (i : Int) R (pre.length : Int)) (if inSp r c = true then v else rest)
  | [], pre, h, he => by
    refine Ev.succ ?_
    simp only [parquetryref02_Of.l1]
    have hl : R.length = pre.length := by rw [h]; simp
    rw [w64 (x := (pre.length : Int) + 1) (by omega) (by omega), w64 (x := (i : Int) + 1) (by omega) (by omega)]
    refine Ev.ifn (by omega) ?_
    rw [show (i : Int) + 1 = ((i + 1 : Nat) : Int) from by omega]
    exact hnext
  | [_], pre, h, he => by simp at he
  | a :: b :: r, pre, h, he => by
    have hl : R.length = pre.length + (r.length + 2) := by rw [h]; simp
    have e1 : rd R (pre.length : Int) = a := by rw [h]; exact rd_mid pre a (b :: r)
    have e2 : rd R ((pre.length : Int) + 1) = b := by
      have := rd_mid (pre ++ [a]) b r
      rw [List.length_append, List.append_assoc] at this
      rw [h]
      simpa using this
    have ih := ref_l1 c T i hi v R hR hrow rest hT hnext r (pre ++ [a, b]) (by rw [h]; simp) (by simp only [List.length_cons] at he; omega)
    have e3 : wrap64 ((pre.length : Int) + 2) = ((pre ++ [a, b]).length : Int) := by rw [w64 (by omega) (by omega)]; simp
    refine Ev.succ ?_
    simp only [parquetryref02_Of.l1]
    rw [e1, e3, w64 (x := (pre.length : Int) + 1) (by omega) (by omega), e2, hrow]
    simp only [inSp]
    refine Ev.ifp (by omega) (Ev.ifp (by omega) (Ev.ifp (by omega) ?_))
    by_cases ha : a ≤ c
    · refine Ev.ifp ha (Ev.ifp (by omega) ?_)
      by_cases hb : c ≤ b
      · exact Ev.ifp hb (Ev.ifp (by omega) (Ev.ifp (by omega) (Ev.val (Ev.now _) (by simp [ha, hb]))))
      · exact Ev.ifn hb (Ev.val ih (by simp [ha, hb]))
    · exact Ev.ifn ha (Ev.val ih (by simp [ha]))
theorem ref_l0 (c : Int) (T : List RW) (hT : T.length < 1000) (hall : (T.all fun r => spIn ends2 r.f1 && (decide (r.f1.length % 2 = 0) && decide (r.f1.length < 1000000))) = true) : ∀ (r pre : List RW), T = pre ++ r → Ev (fun k => parquetryref02_Of.l0 k c T (pre.length : Int)) (refT r c)
  | [], pre, h => by
    refine Ev.succ ?_
    simp only [parquetryref02_Of.l0]
    exact Ev.ifn (by rw [h]; simp) (Ev.now _)
  | x :: r, pre, h => by
    have hl : T.length = pre.length + (r.length + 1) := by rw [h]; simp
    have hrd : rd_T76 T (pre.length : Int) = x := by rw [h]; exact rdW_mid pre x r
    have hx := List.all_eq_true.1 hall x (by rw [h]; simp)
    simp only [Bool.and_eq_true, decide_eq_true_eq] at hx
    have ih := ref_l0 c T hT hall r (pre ++ [x]) (by rw [h]; simp)
    rw [show ((pre ++ [x]).length : Int) = ((pre.length + 1 : Nat) : Int) from by simp] at ih
    refine Ev.succ ?_
    simp only [parquetryref02_Of.l0]
    rw [hrd]
    refine Ev.ifp (by omega) (Ev.ifp (by omega) ?_)
    exact ref_l1 c T pre.length (by omega) x.f0 x.f1 hx.2.2 (by rw [hrd]) (refT r c) hT ih x.f1 [] rfl hx.2.1
theorem refOf_ev (c : Int) : Ev (fun k => parquetryref02_Of.f k c) (class_Of.val c) := by
  rw [classes_eq]
  unfold parquetryref02_Of.f
  exact Ev.bindc (show parquetryref02_Table.f = some tab from rfl) (ref_l0 c tab tab_len ends2_ref tab [] rfl)
end Go.Proofs.Ytieffcjbbhigbaa.PC17
