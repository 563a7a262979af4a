/- The plain law of chapter 10: where base.Paragraphs tells that paragraphs end. Conditions: at most 10^6 runes. -/
import Derived.Test.YtekllnpmioinfaaHP10
namespace Go.Proofs.Ytekllnpmioinfaa.PC10
open Go.RowKit Go.Proofs.YtekllnpmioinfaaW.PrintWords Go.Proofs.YtekllnpmioinfaaW.PrintLast Go.Proofs.YtekllnpmioinfaaW.PrintMore Go.Proofs.YtekllnpmioinfaaH
set_option linter.unusedVariables false
set_option linter.unusedSimpArgs false

abbrev RN := S36
def isB (c : Int) : Bool := class_Of.val c == 10
theorem class_eq (c : Int) : class_Of.f c = some (class_Of.val c) := rfl
/-- Does a paragraph end with a code point, behind which some others stand? -/
def ends (c : Int) (r : List Int) : Bool := (isB c && !(c == 13 && r.head? == some 10)) || r.isEmpty
def parE : List Int → Int → List Int
  | [], _ => []
  | c :: r, i => if ends c r = true then (i + 1) :: parE r (i + 1) else parE r (i + 1)
theorem rdT_mid (pre : List RN) (x : RN) (r : List RN) : rd_T36 (pre ++ x :: r) (pre.length : Int) = x := by
  unfold rd_T36
  rw [Int.toNat_natCast, List.getD_eq_getElem?_getD, List.getElem?_append_right (Nat.le_refl _), Nat.sub_self]
  rfl
def codes (l : List RN) : List Int := l.map fun x => x.f2
theorem par_l0 (l : List RN) (hl : l.length < 1000000) : ∀ (r pre : List RN) (out : List Int), l = pre ++ r → out.length ≤ pre.length → Ev (fun k => base_Paragraphs.l0 k l out l (l.length : Int) (pre.length : Int)) (out ++ parE (codes r) (pre.length : Int))
  | [], pre, out, h, ho => by
    refine Ev.succ ?_
    simp only [base_Paragraphs.l0]
    exact Ev.ifn (by rw [h]; simp) (Ev.val (Ev.now _) (by simp [codes, parE]))
  | x :: r, pre, out, h, ho => by
    have hlen : l.length = pre.length + (r.length + 1) := by rw [h]; simp
    have hrd : rd_T36 l (pre.length : Int) = x := by rw [h]; exact rdT_mid pre x r
    have e1 : wrap64 ((pre.length : Int) + 1) = (pre.length : Int) + 1 := w64 (by omega) (by omega)
    have e2 : (pre.length : Int) + 1 = ((pre ++ [x]).length : Int) := by simp
    have yes : ends x.f2 (codes r) = true → Ev (fun k => if out.length < 17592186044416 then base_Paragraphs.l0 k l (out ++ [(pre.length : Int) + 1]) l (l.length : Int) ((pre.length : Int) + 1) else none) (out ++ parE (codes (x :: r)) (pre.length : Int)) := fun he => by
      have ih := par_l0 l hl r (pre ++ [x]) (out ++ [(pre.length : Int) + 1]) (by rw [h]; simp) (by simp; omega)
      rw [← e2] at ih
      refine Ev.ifp (by omega) (Ev.val ih ?_)
      simp only [codes, List.map_cons, parE]
      rw [if_pos (show ends x.f2 (List.map (fun x => x.f2) r) = true from he)]
      simp
    have no : ends x.f2 (codes r) = false → Ev (fun k => base_Paragraphs.l0 k l out l (l.length : Int) ((pre.length : Int) + 1)) (out ++ parE (codes (x :: r)) (pre.length : Int)) := fun he => by
      have ih := par_l0 l hl r (pre ++ [x]) out (by rw [h]; simp) (by simp; omega)
      rw [← e2] at ih
      refine Ev.val ih ?_
      simp only [codes, List.map_cons, parE]
      rw [if_neg (by rw [show ends x.f2 (List.map (fun x => x.f2) r) = false from he]; decide)]
    have emp : (codes r).isEmpty = decide ((pre.length : Int) + 1 = (l.length : Int)) := by
      cases r with
      | nil => simp only [List.length_nil] at hlen; simp [codes]; omega
      | cons y r => simp only [List.length_cons] at hlen; simp [codes]; omega
    have last : (isB x.f2 && !(x.f2 == 13 && (codes r).head? == some 10)) = false → Ev (fun k => if (pre.length : Int) + 1 = (l.length : Int) then (if out.length < 17592186044416 then base_Paragraphs.l0 k l (out ++ [(pre.length : Int) + 1]) l (l.length : Int) ((pre.length : Int) + 1) else none) else base_Paragraphs.l0 k l out l (l.length : Int) ((pre.length : Int) + 1)) (out ++ parE (codes (x :: r)) (pre.length : Int)) := fun hb => by
      by_cases hq : (pre.length : Int) + 1 = (l.length : Int)
      · exact Ev.ifp hq (yes (by unfold ends; rw [hb, emp, decide_eq_true hq]; rfl))
      · exact Ev.ifn hq (no (by unfold ends; rw [hb, emp, decide_eq_false hq]; rfl))
    refine Ev.succ ?_
    simp only [base_Paragraphs.l0]
    rw [hrd, e1]
    refine Ev.ifp (by omega) (Ev.ifp (by omega) (Ev.ifp (by omega) ?_))
    by_cases h13 : x.f2 = 13
    · refine Ev.ifp h13 ?_
      by_cases hq : (pre.length : Int) + 1 < (l.length : Int)
      · cases hr : r with
        | nil => rw [hr] at hlen; simp only [List.length_nil] at hlen; omega
        | cons y r2 =>
          have hy : rd_T36 l ((pre.length : Int) + 1) = y := by
            have := rdT_mid (pre ++ [x]) y r2
            rw [← e2] at this
            rw [h, hr]
            simpa using this
          rw [hy, ← hr]
          refine Ev.ifp hq (Ev.ifp (by omega) (Ev.bindc (class_eq _) ?_))
          by_cases hB : class_Of.val x.f2 = 10
          · refine Ev.ifp hB ?_
            have hb : isB x.f2 = true := beq_iff_eq.2 hB
            by_cases hy10 : y.f2 = 10
            · exact Ev.ifp hy10 (last (by rw [hb, h13, hr]; simp [codes, hy10]))
            · exact Ev.ifn hy10 (yes (by unfold ends; rw [hb, h13, hr]; simp [codes, hy10]))
          · refine Ev.ifn hB (last ?_)
            rw [show isB x.f2 = false from beq_eq_false_iff_ne.2 hB]
            rfl
      · refine Ev.ifn hq (Ev.bindc (class_eq _) ?_)
        have hr : r = [] := by
          cases r with
          | nil => rfl
          | cons y r => simp only [List.length_cons] at hlen; omega
        by_cases hB : class_Of.val x.f2 = 10
        · exact Ev.ifp hB (yes (by unfold ends; rw [hr]; simp [codes]))
        · refine Ev.ifn hB (last ?_)
          rw [show isB x.f2 = false from beq_eq_false_iff_ne.2 hB]
          rfl
    · refine Ev.ifn h13 (Ev.bindc (class_eq _) ?_)
      have h13b : (x.f2 == 13) = false := beq_eq_false_iff_ne.2 h13
      by_cases hB : class_Of.val x.f2 = 10
      · exact Ev.ifp hB (yes (by unfold ends isB; rw [beq_iff_eq.2 hB, h13b]; rfl))
      · refine Ev.ifn hB (last ?_)
        rw [show isB x.f2 = false from beq_eq_false_iff_ne.2 hB]
        rfl
theorem par_ev (l : List RN) (hl : l.length < 1000000) : Ev (fun k => base_Paragraphs.f k l) (parE (codes l) 0) := by
  unfold base_Paragraphs.f
  exact par_l0 l hl l [] [] rfl (by simp)
theorem parE_len : ∀ (r : List Int) (i : Int), (parE r i).length ≤ r.length
  | [], i => by simp [parE]
  | c :: r, i => by
    have := parE_len r (i + 1)
    unfold parE
    split <;> simp only [List.length_cons] <;> omega
end Go.Proofs.Ytekllnpmioinfaa.PC10
