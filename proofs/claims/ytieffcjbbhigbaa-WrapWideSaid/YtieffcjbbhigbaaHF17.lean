/- Chapter 17: all lines, in plain Lean: the program's. Conditions: whole numbers are int64, at most 200 clusters. -/
import Derived.Test.YtieffcjbbhigbaaHD17
import Derived.Test.YtieffcjbbhigbaaHC17
namespace Go.Proofs.Ytieffcjbbhigbaa.Pure
open Go.RowKit Go.Proofs.Ytieffcjbbhigbaa.PC17 Go.Proofs.YtieffcjbbhigbaaW.PrintWords Go.Proofs.YtieffcjbbhigbaaW.PrintLast Go.Proofs.YtieffcjbbhigbaaW.PrintMore Go.Proofs.YtieffcjbbhigbaaH
set_option linter.unusedVariables false

/-- Lines that follow one another from a cluster on. -/
def LinesR (l : List CL) (w : Int) : Nat → List LN → Prop
  | _, [] => False
  | fr, y :: r => fr < l.length ∧ ∃ p : Nat × Nat, Step l w fr p ∧ y.f0 = (fr : Int) ∧ y.f1 = (p.1 : Int) ∧ y.f2 = (p.2 : Int) ∧ y.f4 = 0 ∧ ((p.1 = l.length ∧ y.f3 = 1 ∧ r = []) ∨ (p.1 < l.length ∧ y.f3 = 0 ∧ LinesR l w p.1 r))
theorem linesR_det {l : List CL} {w : Int} : ∀ {fr : Nat} {a b : List LN}, LinesR l w fr a → LinesR l w fr b → a = b
  | _, [], _, h, _ => h.elim
  | _, _ :: _, [], _, h => h.elim
  | fr, x :: a, y :: b, ⟨_, p, hp, h0, h1, h2, h4, h⟩, ⟨_, q, hq, g0, g1, g2, g4, g⟩ => by
    obtain rfl := step_det hp hq
    obtain ⟨x0, x1, x2, x3, x4⟩ := x
    obtain ⟨y0, y1, y2, y3, y4⟩ := y
    dsimp only at *
    rcases h with ⟨e1, h3, ha⟩ | ⟨e1, h3, ha⟩
    · rcases g with ⟨_, g3, gb⟩ | ⟨e2, _⟩
      · subst h0 h1 h2 h3 h4 g0 g1 g2 g3 g4 ha gb
        rfl
      · omega
    · rcases g with ⟨e2, _⟩ | ⟨_, g3, gb⟩
      · omega
      · obtain rfl := linesR_det ha gb
        subst h0 h1 h2 h3 h4 g0 g1 g2 g3 g4
        rfl
/-- The last line is over at the end of all. -/
def fixL (m : Int) : List LN → List LN
  | [] => []
  | [y] => [⟨y.f0, m, y.f2, y.f3, y.f4⟩]
  | y :: z :: r => y :: fixL m (z :: r)
theorem fixL_len (m : Int) : ∀ r : List LN, (fixL m r).length = r.length
  | [] => rfl
  | [y] => rfl
  | y :: z :: r => by rw [fixL, List.length_cons, fixL_len m (z :: r)]; rfl
theorem put_cons (m : Int) (y z : LN) (r : List LN) : wrap_Lines.put (y :: z :: r) m = y :: wrap_Lines.put (z :: r) m := by
  unfold wrap_Lines.put
  simp
theorem put_fix (m : Int) : ∀ r : List LN, 0 < r.length → wrap_Lines.put r m = fixL m r
  | [], h => by simp at h
  | [y], _ => rfl
  | y :: z :: r, _ => by rw [put_cons, fixL, put_fix m (z :: r) (by simp)]
theorem ll_ev (l : List CL) (wd : Int) (hl : l.length ≤ 300) (h0 : -9223372036854775808 ≤ wd) (h1 : wd ≤ 9223372036854775807) : ∀ (d fr : Nat), fr + d = l.length → fr < l.length → ∃ ys, Ev (fun k => wrap_Lines.ll k l wd (fr : Int)) ys ∧ LinesR l wd fr ys ∧ 0 < ys.length ∧ ys.length ≤ d := by
  intro d
  induction d using Nat.strongRecOn with
  | _ d ih =>
    intro fr hd hf
    obtain ⟨p, hp1, hp2⟩ := part_ev l wd hl h0 h1 fr hf
    obtain ⟨b1, b2, b3, b4⟩ := step_bd hp2 hf
    by_cases c : p.1 = l.length
    · refine ⟨[⟨(fr : Int), (p.1 : Int), (p.2 : Int), 1, 0⟩], Ev.succ ?_, ⟨hf, p, hp2, rfl, rfl, rfl, rfl, .inl ⟨c, rfl, rfl⟩⟩, by simp, by simp; omega⟩
      simp only [wrap_Lines.ll]
      exact Ev.bind hp1 (Ev.ifp (by unfold ansV; simp; omega) (Ev.now _))
    · obtain ⟨ys, hy1, hy2, hy3, hy4⟩ := ih (l.length - p.1) (by omega) p.1 (by omega) (by omega)
      refine ⟨⟨(fr : Int), (p.1 : Int), (p.2 : Int), 0, 0⟩ :: ys, Ev.succ ?_, ⟨hf, p, hp2, rfl, rfl, rfl, rfl, .inr ⟨by omega, rfl, hy2⟩⟩, by simp, by simp; omega⟩
      simp only [wrap_Lines.ll]
      exact Ev.bind hp1 (Ev.ifn (by unfold ansV; simp; omega) (Ev.bind hy1 (Ev.now _)))
/-- What lines there are. -/
def LinesOK (l : List CL) (a1 a2 : Int) (ys : List LN) : Prop :=
  if a2 = 0 ∨ shownN l = 0 then ys = [⟨0, (l.length : Int), (shownN l : Int), 1, 0⟩] else ∃ zs, LinesR (l.take (shownN l)) (mx a1 1) 0 zs ∧ 0 < zs.length ∧ zs.length ≤ shownN l ∧ ys = fixL (l.length : Int) zs
theorem mx1 (a : Int) (h0 : -9223372036854775808 ≤ a) (h1 : a ≤ 9223372036854775807) : 1 ≤ mx a 1 ∧ mx a 1 ≤ 9223372036854775807 := by
  rw [mx_def]
  split <;> omega
theorem lines_ev (l : List CL) (a1 a2 : Int) (hl : l.length ≤ 300) (h0 : -9223372036854775808 ≤ a1) (h1 : a1 ≤ 9223372036854775807) : ∃ ys, Ev (fun k => wrap_Lines.f k l a1 a2) ys ∧ LinesOK l a1 a2 ys := by
  have hs := shown_le l
  obtain ⟨m0, m1⟩ := mx1 a1 h0 h1
  unfold LinesOK wrap_Lines.f
  by_cases c : a2 = 0 ∨ shownN l = 0
  · simp only [if_pos c]
    exact ⟨_, Ev.bindc (shown_eq l hl) (Ev.ifp (by omega) (Ev.now _)), rfl⟩
  · simp only [if_neg c]
    have hn : (l.take (shownN l)).length = shownN l := by rw [List.length_take]; omega
    obtain ⟨zs, hz1, hz2, hz3, hz4⟩ := ll_ev (l.take (shownN l)) (mx a1 1) (by omega) (by omega) m1 (shownN l) 0 (by omega) (by omega)
    refine ⟨fixL (l.length : Int) zs, Ev.bindc (shown_eq l hl) (Ev.ifn (by omega) (Ev.ifp ⟨by omega, by omega, by omega⟩ ?_)), zs, hz2, hz3, hz4, rfl⟩
    rw [Int.toNat_natCast]
    exact Ev.bind hz1 (Ev.ifp (by omega) (Ev.val (Ev.now _) (put_fix _ zs hz3)))
end Go.Proofs.Ytieffcjbbhigbaa.Pure
