/- The plain law of chapter 10, the document's side: the classes that it tells are the program's, and where its paragraphs end. Conditions: at most 10^6 runes. -/
import Derived.Test.YtekllnpmioinfaaPC10x14
import Derived.Test.YtekllnpmioinfaaHG10
namespace Go.Proofs.Ytekllnpmioinfaa.PC10
open Go.RowKit Go.Proofs.YtekllnpmioinfaaW.PrintWords Go.Proofs.YtekllnpmioinfaaW.PrintLast Go.Proofs.YtekllnpmioinfaaW.PrintMore Go.Proofs.YtekllnpmioinfaaH
set_option linter.unusedVariables false
set_option linter.unusedSimpArgs false

abbrev RW := S74
def tab : List RW := (parquetryref02_Table.f).getD []
def refT : List RW → Int → Int
  | [], _ => 0
  | r :: l, c => if inSp r.f1 c = true then r.f0 else refT l c
def dd : List Int → List Int
  | a :: b :: r => if a = b then dd (b :: r) else a :: dd (b :: r)
  | l => l
def ends2 : List Int := dd (class_spans.L.flatMap fun r => [r.f0, r.f1 + 1])
set_option maxRecDepth 100000 in
theorem ends2_up : rup ends2 (-1) = true := by decide +kernel
set_option maxRecDepth 100000 in
theorem ends2_prog : (class_spans.L.all fun r => ends2.contains r.f0 && ends2.contains (r.f1 + 1)) = true := by decide +kernel
set_option maxRecDepth 100000 in
theorem ends2_ref : (tab.all fun r => spIn ends2 r.f1 && (decide (r.f1.length % 2 = 0) && decide (r.f1.length < 1000000))) = true := by decide +kernel
theorem tab_len : tab.length < 1000 := by decide +kernel
theorem spn_rnd (c : Int) : ∀ l : List (S69), (l.all fun r => ends2.contains r.f0 && ends2.contains (r.f1 + 1)) = true → class_Of.spn l c = class_Of.spn l (rnd ends2 (-1) c)
  | [], _ => rfl
  | r :: l, h => by
    simp only [List.all_cons, Bool.and_eq_true, List.contains_iff_mem] at h
    have h1 := rnd_iff ends2 (-1) c ends2_up _ h.1.1
    have h2 := rnd_iff ends2 (-1) c ends2_up _ h.1.2
    unfold class_Of.spn
    rw [spn_rnd c l h.2]
    by_cases h3 : r.f1 < c
    · rw [if_pos h3, if_pos (show r.f1 < rnd ends2 (-1) c by omega)]
    · rw [if_neg h3, if_neg (show ¬ r.f1 < rnd ends2 (-1) c by omega)]
      by_cases h4 : c < r.f0
      · rw [if_pos h4, if_pos (show rnd ends2 (-1) c < r.f0 by omega)]
      · rw [if_neg h4, if_neg (show ¬ rnd ends2 (-1) c < r.f0 by omega)]
theorem refT_rnd (c : Int) : ∀ l : List RW, (l.all fun r => spIn ends2 r.f1 && (decide (r.f1.length % 2 = 0) && decide (r.f1.length < 1000000))) = true → refT l c = refT l (rnd ends2 (-1) c)
  | [], _ => rfl
  | r :: l, h => by
    simp only [List.all_cons, Bool.and_eq_true] at h
    unfold refT
    rw [← inSp_rnd ends2 (-1) c ends2_up _ h.1.1, ← refT_rnd c l (by simpa using h.2)]
set_option maxRecDepth 100000 in
theorem classes_at : ∀ x ∈ (-1) :: ends2, class_Of.spn class_spans.L x = refT tab x := by decide +kernel
theorem classes_eq (c : Int) : class_Of.val c = refT tab c := by
  unfold class_Of.val
  rw [spn_rnd c _ ends2_prog, refT_rnd c _ ends2_ref]
  exact classes_at _ (rnd_mem _ _ _)
theorem rdW_mid (pre : List RW) (x : RW) (r : List RW) : rd_T74 (pre ++ x :: r) (pre.length : Int) = x := by
  unfold rd_T74
  rw [Int.toNat_natCast, List.getD_eq_getElem?_getD, List.getElem?_append_right (Nat.le_refl _), Nat.sub_self]
  rfl
theorem ref_l1 (c : Int) (T : List RW) (i : Nat) (hi : i < T.length) (v : Int) (R : List Int) (hR : R.length < 1000000) (hrow : (rd_T74 T (i : Int)).f0 = v) (rest : Int) (hT : T.length < 1000)
    (hnext : Ev (fun k => parquetryref02_Of.l0 k c T ((i + 1 : Nat) : Int)) rest) : ∀ (r pre : List Int), R = pre ++ r → r.length % 2 = 0 → Ev (fun k => parquetryref02_Of.l1 k c T (i : Int) R (pre.length : Int)) (if inSp r c = true then v else rest)
  | [], pre, h, he => by
    refine Ev.succ ?_
    simp only [parquetryref02_Of.l1]
    have hl : R.length = pre.length := by rw [h]; simp
    rw [w64 (x := (pre.length : Int) + 1) (by omega) (by omega), w64 (x := (i : Int) + 1) (by omega) (by omega)]
    refine Ev.ifn (by omega) ?_
    rw [show (i : Int) + 1 = ((i + 1 : Nat) : Int) from by omega]
    exact hnext
  | [_], pre, h, he => by simp at he
  | a :: b :: r, pre, h, he => by
    have hl : R.length = pre.length + (r.length + 2) := by rw [h]; simp
    have e1 : rd R (pre.length : Int) = a := by rw [h]; exact rd_mid pre a (b :: r)
    have e2 : rd R ((pre.length : Int) + 1) = b := by
      have := rd_mid (pre ++ [a]) b r
      rw [List.length_append, List.append_assoc] at this
      rw [h]
      simpa using this
    have ih := ref_l1 c T i hi v R hR hrow rest hT hnext r (pre ++ [a, b]) (by rw [h]; simp) (by simp only [List.length_cons] at he; omega)
    have e3 : wrap64 ((pre.length : Int) + 2) = ((pre ++ [a, b]).length : Int) := by rw [w64 (by omega) (by omega)]; simp
    refine Ev.succ ?_
    simp only [parquetryref02_Of.l1]
    rw [e1, e3, w64 (x := (pre.length : Int) + 1) (by omega) (by omega), e2, hrow]
    simp only [inSp]
    refine Ev.ifp (by omega) (Ev.ifp (by omega) (Ev.ifp (by omega) ?_))
    by_cases ha : a ≤ c
    · refine Ev.ifp ha (Ev.ifp (by omega) ?_)
      by_cases hb : c ≤ b
      · exact Ev.ifp hb (Ev.ifp (by omega) (Ev.ifp (by omega) (Ev.val (Ev.now _) (by simp [ha, hb]))))
      · exact Ev.ifn hb (Ev.val ih (by simp [ha, hb]))
    · exact Ev.ifn ha (Ev.val ih (by simp [ha]))
theorem ref_l0 (c : Int) (T : List RW) (hT : T.length < 1000) (hall : (T.all fun r => spIn ends2 r.f1 && (decide (r.f1.length % 2 = 0) && decide (r.f1.length < 1000000))) = true) : ∀ (r pre : List RW), T = pre ++ r → Ev (fun k => parquetryref02_Of.l0 k c T (pre.length : Int)) (refT r c)
  | [], pre, h => by
    refine Ev.succ ?_
    simp only [parquetryref02_Of.l0]
    exact Ev.ifn (by rw [h]; simp) (Ev.now _)
  | x :: r, pre, h => by
    have hl : T.length = pre.length + (r.length + 1) := by rw [h]; simp
    have hrd : rd_T74 T (pre.length : Int) = x := by rw [h]; exact rdW_mid pre x r
    have hx := List.all_eq_true.1 hall x (by rw [h]; simp)
    simp only [Bool.and_eq_true, decide_eq_true_eq] at hx
    have ih := ref_l0 c T hT hall r (pre ++ [x]) (by rw [h]; simp)
    rw [show ((pre ++ [x]).length : Int) = ((pre.length + 1 : Nat) : Int) from by simp] at ih
    refine Ev.succ ?_
    simp only [parquetryref02_Of.l0]
    rw [hrd]
    refine Ev.ifp (by omega) (Ev.ifp (by omega) ?_)
    exact ref_l1 c T pre.length (by omega) x.f0 x.f1 hx.2.2 (by rw [hrd]) (refT r c) hT ih x.f1 [] rfl hx.2.1
theorem refOf_ev (c : Int) : Ev (fun k => parquetryref02_Of.f k c) (class_Of.val c) := by
  rw [classes_eq]
  unfold parquetryref02_Of.f
  exact Ev.bindc (show parquetryref02_Table.f = some tab from rfl) (ref_l0 c tab tab_len ends2_ref tab [] rfl)
theorem refPar_l0 (l : List RN) (hl : l.length < 1000000) : ∀ (r pre : List RN) (out : List Int), l = pre ++ r → out.length ≤ pre.length → Ev (fun k => parquetryref10_Paragraphs.l0 k l out (pre.length : Int)) (out ++ parE (codes r) (pre.length : Int))
  | [], pre, out, h, ho => by
    refine Ev.succ ?_
    simp only [parquetryref10_Paragraphs.l0]
    exact Ev.ifn (by rw [h]; simp) (Ev.val (Ev.now _) (by simp [codes, parE]))
  | x :: r, pre, out, h, ho => by
    have hlen : l.length = pre.length + (r.length + 1) := by rw [h]; simp
    have hrd : rd_T36 l (pre.length : Int) = x := by rw [h]; exact rdT_mid pre x r
    have e1 : wrap64 ((pre.length : Int) + 1) = (pre.length : Int) + 1 := w64 (by omega) (by omega)
    have e2 : (pre.length : Int) + 1 = ((pre ++ [x]).length : Int) := by simp
    have yes : ends x.f2 (codes r) = true → Ev (fun k => if out.length < 17592186044416 then parquetryref10_Paragraphs.l0 k l (out ++ [(pre.length : Int) + 1]) ((pre.length : Int) + 1) else none) (out ++ parE (codes (x :: r)) (pre.length : Int)) := fun he => by
      have ih := refPar_l0 l hl r (pre ++ [x]) (out ++ [(pre.length : Int) + 1]) (by rw [h]; simp) (by simp; omega)
      rw [← e2] at ih
      refine Ev.ifp (by omega) (Ev.val ih ?_)
      simp only [codes, List.map_cons, parE]
      rw [if_pos (show ends x.f2 (List.map (fun x => x.f2) r) = true from he)]
      simp
    have no : ends x.f2 (codes r) = false → Ev (fun k => parquetryref10_Paragraphs.l0 k l out ((pre.length : Int) + 1)) (out ++ parE (codes (x :: r)) (pre.length : Int)) := fun he => by
      have ih := refPar_l0 l hl r (pre ++ [x]) out (by rw [h]; simp) (by simp; omega)
      rw [← e2] at ih
      refine Ev.val ih ?_
      simp only [codes, List.map_cons, parE]
      rw [if_neg (by rw [show ends x.f2 (List.map (fun x => x.f2) r) = false from he]; decide)]
    have emp : (codes r).isEmpty = decide ((pre.length : Int) = (l.length : Int) - 1) := by
      cases r with
      | nil => simp only [List.length_nil] at hlen; simp [codes]; omega
      | cons y r => simp only [List.length_cons] at hlen; simp [codes]; omega
    have j1 : ∀ b13 : Bool, b13 = (x.f2 == 13 && (codes r).head? == some 10) → Ev (fun k => parquetryref10_Paragraphs.j1 k l out (pre.length : Int) (isB x.f2) b13) (out ++ parE (codes (x :: r)) (pre.length : Int)) := fun b13 hb => by
      refine Ev.succ ?_
      simp only [parquetryref10_Paragraphs.j1]
      rw [e1, w64 (x := (l.length : Int) - 1) (by omega) (by omega)]
      have last : (isB x.f2 && !b13) = false → Ev (fun k => if (pre.length : Int) = (l.length : Int) - 1 then (if out.length < 17592186044416 then parquetryref10_Paragraphs.l0 k l (out ++ [(pre.length : Int) + 1]) ((pre.length : Int) + 1) else none) else parquetryref10_Paragraphs.l0 k l out ((pre.length : Int) + 1)) (out ++ parE (codes (x :: r)) (pre.length : Int)) := fun hb2 => by
        by_cases hq : (pre.length : Int) = (l.length : Int) - 1
        · exact Ev.ifp hq (yes (by unfold ends; rw [← hb, hb2, emp, decide_eq_true hq]; rfl))
        · exact Ev.ifn hq (no (by unfold ends; rw [← hb, hb2, emp, decide_eq_false hq]; rfl))
      cases b13 with
      | true => exact Ev.ifp rfl (last (by simp))
      | false =>
        refine Ev.ifn (by decide) ?_
        by_cases hB : isB x.f2 = true
        · exact Ev.ifp hB (yes (by unfold ends; rw [← hb, hB]; rfl))
        · exact Ev.ifn hB (last (by rw [Bool.eq_false_iff.2 hB]; rfl))
    refine Ev.succ ?_
    simp only [parquetryref10_Paragraphs.l0]
    rw [hrd, e1]
    refine Ev.ifp (by omega) (Ev.ifp (by omega) (Ev.bind (refOf_ev x.f2) ?_))
    by_cases hq : (pre.length : Int) + 1 < (l.length : Int)
    · refine Ev.ifp hq ?_
      cases hr : r with
      | nil => rw [hr] at hlen; simp only [List.length_nil] at hlen; omega
      | cons y r2 =>
        have hy : rd_T36 l ((pre.length : Int) + 1) = y := by
          have := rdT_mid (pre ++ [x]) y r2
          rw [← e2] at this
          rw [h, hr]
          simpa using this
        rw [hy, ← hr]
        by_cases h13 : x.f2 = 13
        · exact Ev.ifp h13 (Ev.ifp (by omega) (j1 _ (by rw [h13, hr]; simp [codes])))
        · exact Ev.ifn h13 (j1 _ (by rw [beq_eq_false_iff_ne.2 h13]; rfl))
    · refine Ev.ifn hq (j1 _ ?_)
      have hr : r = [] := by
        cases r with
        | nil => rfl
        | cons y r => simp only [List.length_cons] at hlen; omega
      rw [hr]
      simp [codes]
theorem refPar_ev (l : List RN) (hl : l.length < 1000000) : Ev (fun k => parquetryref10_Paragraphs.f k l) (parE (codes l) 0) := by
  unfold parquetryref10_Paragraphs.f
  exact refPar_l0 l hl l [] [] rfl (by simp)
end Go.Proofs.Ytekllnpmioinfaa.PC10
