/- Chapter 17: where one line is over, and up to where it is shown, in plain Lean: what the program and the document tell of it. Conditions: whole numbers are int64, at most 300 clusters. -/
import Derived.Test.YtieffcjbbhigbaaPC17x4
import Derived.Test.YtieffcjbbhigbaaHA17
namespace Go.Proofs.Ytieffcjbbhigbaa.Pure
open Go.RowKit Go.Proofs.Ytieffcjbbhigbaa.PC17 Go.Proofs.YtieffcjbbhigbaaW.PrintWords Go.Proofs.YtieffcjbbhigbaaW.PrintLast Go.Proofs.YtieffcjbbhigbaaW.PrintMore Go.Proofs.YtieffcjbbhigbaaH
set_option linter.unusedVariables false

/-- Is the cluster at a place a blank? -/
def bk (l : List CL) (i : Nat) : Bool := (rd_T39 l (i : Int)).f5 == 32
theorem rd_get (l : List CL) (i : Nat) (h : i < l.length) : rd_T39 l (i : Int) = l[i] := by
  unfold rd_T39
  rw [Int.toNat_natCast, List.getD_eq_getElem?_getD, List.getElem?_eq_getElem h]
  rfl
/-- Where the blanks ahead of a place begin. -/
def rs (l : List CL) : Nat → Nat
  | 0 => 0
  | i + 1 => if bk l i = true then rs l i else i + 1
/-- Where the blanks from a place on are over. -/
def re (l : List CL) (i : Nat) : Nat := i + ((l.drop i).takeWhile fun c => c.f5 == 32).length
theorem re_over (l : List CL) (i : Nat) (h : l.length ≤ i) : re l i = i := by
  unfold re
  rw [List.drop_of_length_le h]
  rfl
theorem re_yes (l : List CL) (i : Nat) (h : i < l.length) (hb : bk l i = true) : re l i = re l (i + 1) := by
  unfold re
  unfold bk at hb
  rw [rd_get l i h] at hb
  rw [List.drop_eq_getElem_cons h, List.takeWhile_cons, if_pos hb, List.length_cons]
  omega
theorem re_no (l : List CL) (i : Nat) (h : i < l.length) (hb : bk l i = false) : re l i = i := by
  unfold re
  unfold bk at hb
  rw [rd_get l i h] at hb
  rw [List.drop_eq_getElem_cons h, List.takeWhile_cons, if_neg (by rw [hb]; decide)]
  rfl
theorem rs_le (l : List CL) : ∀ i, rs l i ≤ i
  | 0 => Nat.le_refl _
  | i + 1 => by
    have := rs_le l i
    unfold rs
    split <;> omega
theorem rs_gt (l : List CL) (j : Nat) (hj : bk l j = false) : ∀ i, j < i → j < rs l i
  | 0, h => by omega
  | i + 1, h => by
    unfold rs
    split
    · rename_i hb
      by_cases e : j = i
      · rw [e, hb] at hj
        cases hj
      · exact rs_gt l j hj i (by omega)
    · omega
theorem rs_bk (l : List CL) : ∀ i q, rs l i ≤ q → q < i → bk l q = true
  | 0, q, h1, h2 => by omega
  | i + 1, q, h1, h2 => by
    unfold rs at h1
    split at h1
    · rename_i hb
      by_cases e : q = i
      · rw [e]; exact hb
      · exact rs_bk l i q h1 (by omega)
    · omega
/-- Blanks from a place on: of n clusters that come. -/
theorem re_spec (l : List CL) : ∀ n i, i + n = l.length → i ≤ re l i ∧ re l i ≤ l.length ∧ (∀ q, i ≤ q → q < re l i → bk l q = true) ∧ (re l i < l.length → bk l (re l i) = false) := by
  intro n
  induction n with
  | zero =>
    intro i hi
    rw [re_over l i (by omega)]
    exact ⟨by omega, by omega, fun q h1 h2 => by omega, fun h => by omega⟩
  | succ n ih =>
    intro i hi
    cases hb : bk l i
    · rw [re_no l i (by omega) hb]
      exact ⟨by omega, by omega, fun q h1 h2 => by omega, fun h => hb⟩
    · rw [re_yes l i (by omega) hb]
      obtain ⟨h1, h2, h3, h4⟩ := ih (i + 1) (by omega)
      refine ⟨by omega, h2, fun q h5 h6 => ?_, h4⟩
      by_cases e : q = i
      · rw [e]; exact hb
      · exact h3 q (by omega) h6
theorem re_at (l : List CL) (i : Nat) (hi : i ≤ l.length) : i ≤ re l i ∧ re l i ≤ l.length ∧ (∀ q, i ≤ q → q < re l i → bk l q = true) ∧ (re l i < l.length → bk l (re l i) = false) := re_spec l (l.length - i) i (by omega)
/-- A blank behind a word. -/
def Good (l : List CL) (fr i : Nat) : Prop := bk l i = true ∧ ∃ j, fr ≤ j ∧ j < i ∧ bk l j = false
/-- The last one up to a place. -/
def IsLast (l : List CL) (fr en : Nat) : Option Nat → Prop
  | some i => fr ≤ i ∧ i ≤ en ∧ Good l fr i ∧ ∀ q, i < q → q ≤ en → ¬ Good l fr q
  | none => ∀ q, fr ≤ q → q ≤ en → ¬ Good l fr q
theorem isLast_det {l : List CL} {fr en : Nat} : ∀ {o o' : Option Nat}, IsLast l fr en o → IsLast l fr en o' → o = o'
  | none, none, _, _ => rfl
  | none, some i, h, ⟨h1, h2, h3, _⟩ => absurd h3 (h i h1 h2)
  | some i, none, ⟨h1, h2, h3, _⟩, h => absurd h3 (h i h1 h2)
  | some i, some j, ⟨h1, h2, h3, h4⟩, ⟨g1, g2, g3, g4⟩ => by
    rcases Nat.lt_trichotomy i j with h | h | h
    · exact absurd g3 (h4 j h g2)
    · rw [h]
    · exact absurd h3 (g4 i h h2)
/-- What becomes of it. -/
def endV (l : List CL) (fr en : Nat) : Option Nat → Nat × Nat
  | some i => (re l i, rs l i)
  | none => (max en (fr + 1), max en (fr + 1))
/-- One line from a cluster on: where it is over, and up to where it is shown. -/
def Step (l : List CL) (w : Int) (fr : Nat) (r : Nat × Nat) : Prop :=
  (fr + fitA (l.drop fr) w = l.length ∧ r = (l.length, l.length)) ∨ (fr + fitA (l.drop fr) w < l.length ∧ ∃ o, IsLast l fr (fr + fitA (l.drop fr) w) o ∧ r = endV l fr (fr + fitA (l.drop fr) w) o)
theorem step_det {l : List CL} {w : Int} {fr : Nat} {r r' : Nat × Nat} (h : Step l w fr r) (g : Step l w fr r') : r = r' := by
  rcases h with ⟨h1, rfl⟩ | ⟨h1, o, h2, rfl⟩
  · rcases g with ⟨_, rfl⟩ | ⟨g1, _⟩
    · rfl
    · omega
  · rcases g with ⟨g1, _⟩ | ⟨_, o', g2, rfl⟩
    · omega
    · rw [isLast_det h2 g2]
theorem step_bd {l : List CL} {w : Int} {fr : Nat} {r : Nat × Nat} (h : Step l w fr r) (hf : fr < l.length) : fr < r.1 ∧ r.1 ≤ l.length ∧ fr ≤ r.2 ∧ r.2 ≤ r.1 := by
  rcases h with ⟨h1, rfl⟩ | ⟨h1, o, h2, rfl⟩
  · exact ⟨hf, Nat.le_refl _, Nat.le_of_lt hf, Nat.le_refl _⟩
  · cases o with
    | none => simp only [endV]; omega
    | some i =>
      obtain ⟨g1, g2, ⟨g3, j, g4, g5, g6⟩, _⟩ := h2
      have k1 := rs_le l i
      have k2 := rs_gt l j g6 i g5
      obtain ⟨k3, k4, _, _⟩ := re_at l (i + 1) (by omega)
      rw [← re_yes l i (by omega) g3] at k3 k4
      simp only [endV]
      omega
/-- What is not shown of a line but its last one are blanks. -/
theorem step_bk {l : List CL} {w : Int} {fr : Nat} {r : Nat × Nat} (h : Step l w fr r) (hf : fr < l.length) : ∀ q, r.2 ≤ q → q < r.1 → bk l q = true := by
  rcases h with ⟨h1, rfl⟩ | ⟨h1, o, h2, rfl⟩
  · intro q h3 h4
    simp only at h3 h4
    omega
  · cases o with
    | none =>
      intro q h3 h4
      simp only [endV] at h3 h4
      omega
    | some i =>
      obtain ⟨g1, g2, ⟨g3, _⟩, _⟩ := h2
      obtain ⟨_, _, k5, _⟩ := re_at l i (by omega)
      intro q h3 h4
      simp only [endV] at h3 h4
      by_cases e : q < i
      · exact rs_bk l i q h3 e
      · exact k5 q (by omega) h4
theorem back_ev (l : List CL) (wd : Int) (hl : l.length ≤ 300) (x5 : Nat) (h5 : x5 ≤ l.length) : ∀ (x4 : Nat), x4 ≤ l.length → Ev (fun k => wrap_paragraph_blanks.l0 k (x4 : Int) (x5 : Int) l wd) ((rs l x4 : Int), (re l x5 : Int)) := by
  have fw : ∀ n (i x4 : Nat), i + n = l.length → Ev (fun k => wrap_paragraph_blanks.l1 k (x4 : Int) (i : Int) l wd) ((x4 : Int), (re l i : Int)) := by
    intro n
    induction n with
    | zero =>
      intro i x4 hi
      refine Ev.succ ?_
      simp only [wrap_paragraph_blanks.l1]
      rw [re_over l i (by omega)]
      exact Ev.ifn (by omega) (Ev.now _)
    | succ n ih =>
      intro i x4 hi
      refine Ev.succ ?_
      simp only [wrap_paragraph_blanks.l1]
      refine Ev.ifp (by omega) (Ev.ifp (by omega) (Ev.bindc rfl ?_))
      cases hb : bk l i
      · rw [re_no l i (by omega) hb]
        unfold bk at hb
        exact Ev.ifn (by rw [hb]; decide) (Ev.now _)
      · rw [re_yes l i (by omega) hb, show wrap64 ((i : Int) + 1) = ((i + 1 : Nat) : Int) from by rw [w64 (by omega) (by omega)]; omega]
        unfold bk at hb
        exact Ev.ifp hb (ih (i + 1) x4 (by omega))
  intro x4
  induction x4 with
  | zero =>
    intro _
    refine Ev.succ ?_
    simp only [wrap_paragraph_blanks.l0]
    refine Ev.ifn (by omega) (Ev.succ ?_)
    simp only [wrap_paragraph_blanks.j1]
    exact fw (l.length - x5) x5 0 (by omega)
  | succ x4 ih =>
    intro h4
    refine Ev.succ ?_
    simp only [wrap_paragraph_blanks.l0]
    rw [show wrap64 (((x4 + 1 : Nat) : Int) - 1) = (x4 : Int) from by rw [w64 (by omega) (by omega)]; omega]
    refine Ev.ifp (by omega) (Ev.ifp (by omega) (Ev.ifp (by omega) (Ev.bindc rfl ?_)))
    unfold rs
    cases hb : bk l x4
    · rw [if_neg (by decide)]
      unfold bk at hb
      refine Ev.ifn (by rw [hb]; decide) (Ev.succ ?_)
      simp only [wrap_paragraph_blanks.j1]
      exact fw (l.length - x5) x5 (x4 + 1) (by omega)
    · rw [if_pos rfl]
      unfold bk at hb
      exact Ev.ifp hb (ih (by omega))
theorem blanks_ev (l : List CL) (wd : Int) (hl : l.length ≤ 300) (a : Nat) (ha : a ≤ l.length) : Ev (fun k => wrap_paragraph_blanks.f k l wd (a : Int)) ((rs l a : Int), (re l a : Int)) := back_ev l wd hl a ha a ha
/-- The last blank from a place down to another one. -/
def dn (l : List CL) (lo : Nat) : Nat → Option Nat
  | 0 => none
  | a + 1 => if lo < a + 1 then (if bk l (a + 1) = true then some (a + 1) else dn l lo a) else none
theorem dn_spec (l : List CL) (lo : Nat) : ∀ a, (∀ i, dn l lo a = some i → lo < i ∧ i ≤ a ∧ bk l i = true ∧ ∀ q, i < q → q ≤ a → bk l q = false) ∧ (dn l lo a = none → ∀ q, lo < q → q ≤ a → bk l q = false)
  | 0 => ⟨fun i h => (by cases h), fun _ q h1 h2 => by omega⟩
  | a + 1 => by
    obtain ⟨ih1, ih2⟩ := dn_spec l lo a
    unfold dn
    by_cases h : lo < a + 1
    · rw [if_pos h]
      cases hb : bk l (a + 1)
      · rw [if_neg (by decide)]
        refine ⟨fun i hi => ?_, fun hi q h1 h2 => ?_⟩
        · obtain ⟨g1, g2, g3, g4⟩ := ih1 i hi
          refine ⟨g1, by omega, g3, fun q h1 h2 => ?_⟩
          by_cases e : q = a + 1
          · rw [e]; exact hb
          · exact g4 q h1 (by omega)
        · by_cases e : q = a + 1
          · rw [e]; exact hb
          · exact ih2 hi q h1 (by omega)
      · rw [if_pos rfl]
        refine ⟨fun i hi => ?_, fun hi => by cases hi⟩
        obtain rfl := Option.some.inj hi
        exact ⟨h, Nat.le_refl _, hb, fun q h1 h2 => by omega⟩
    · rw [if_neg h]
      exact ⟨fun i hi => (by cases hi), fun _ q h1 h2 => by omega⟩
def ansV (l : List CL) (r : Nat × Nat) : Int × Int × Bool := ((r.1 : Int), (r.2 : Int), (r.1 : Int) == (l.length : Int))
theorem pl_ev (l : List CL) (wd : Int) (hl : l.length ≤ 300) (fr n en : Nat) (he : en < l.length) : ∀ a, a ≤ en → Ev (fun k => wrap_Lines.pl k l wd (fr : Int) (n : Int) (en : Int) (a : Int)) (ansV l (endV l fr en (dn l (fr + n) a))) := by
  have stop : ∀ a : Nat, ¬ (fr + n < a) → Ev (fun k => wrap_Lines.pl k l wd (fr : Int) (n : Int) (en : Int) (a : Int)) (ansV l (endV l fr en none)) := fun a ha => by
    refine Ev.succ ?_
    simp only [wrap_Lines.pl]
    have e : mx (en : Int) ((fr : Int) + 1) = ((max en (fr + 1) : Nat) : Int) := by
      rw [mx_def]
      split <;> omega
    rw [e]
    exact Ev.ifn (by omega) (Ev.now _)
  intro a
  induction a with
  | zero =>
    intro _
    exact stop 0 (by omega)
  | succ a ih =>
    intro ha
    unfold dn
    by_cases h : fr + n < a + 1
    · rw [if_pos h]
      refine Ev.succ ?_
      simp only [wrap_Lines.pl]
      refine Ev.ifp (by omega) (Ev.ifp (by omega) ?_)
      cases hb : bk l (a + 1)
      · rw [if_neg (by decide), show (((a + 1 : Nat) : Int) - 1) = (a : Int) from by omega]
        unfold bk at hb
        exact Ev.ifn (by unfold wrap_Lines.bl; rw [hb]; decide) (ih (by omega))
      · rw [if_pos rfl]
        unfold bk at hb
        exact Ev.ifp hb (Ev.bind (blanks_ev l wd hl (a + 1) (by omega)) (Ev.now _))
    · rw [if_neg h]
      exact stop (a + 1) h
theorem pl_none (l : List CL) (wd : Int) (fr en a : Nat) : Ev (fun k => wrap_Lines.pl k l wd (fr : Int) (-1) (en : Int) (a : Int)) (ansV l (endV l fr en none)) := by
  refine Ev.succ ?_
  simp only [wrap_Lines.pl]
  have e : mx (en : Int) ((fr : Int) + 1) = ((max en (fr + 1) : Nat) : Int) := by
    rw [mx_def]
    split <;> omega
  rw [e]
  exact Ev.ifn (by omega) (Ev.now _)
theorem ix_spec : ∀ (r : List CL) (i : Int), (wrap_Lines.ix r i = -1 ∧ ∀ q, q < r.length → bk r q = true) ∨ ∃ n : Nat, wrap_Lines.ix r i = i + n ∧ n < r.length ∧ (∀ q, q < n → bk r q = true) ∧ bk r n = false
  | [], i => .inl ⟨rfl, fun q h => by simp at h⟩
  | c :: r, i => by
    have sh : ∀ q, bk (c :: r) (q + 1) = bk r q := fun q => by
      unfold bk rd_T39
      rw [Int.toNat_natCast, Int.toNat_natCast]
      rfl
    have hd : bk (c :: r) 0 = wrap_Lines.bl c := rfl
    simp only [wrap_Lines.ix]
    cases hb : wrap_Lines.bl c
    · rw [if_neg (by decide)]
      exact .inr ⟨0, by simp, by simp, fun q h => by omega, hd.trans hb⟩
    · rw [if_pos rfl]
      rcases ix_spec r (i + 1) with ⟨h1, h2⟩ | ⟨n, h1, h2, h3, h4⟩
      · refine .inl ⟨h1, fun q hq => ?_⟩
        cases q with
        | zero => exact hd.trans hb
        | succ q => rw [sh]; exact h2 q (by simpa using hq)
      · refine .inr ⟨n + 1, by rw [h1]; omega, by simpa using h2, fun q hq => ?_, by rw [sh]; exact h4⟩
        cases q with
        | zero => exact hd.trans hb
        | succ q => rw [sh]; exact h3 q (by omega)
theorem bk_mid (l : List CL) (fr en q : Nat) (he : en < l.length) (hq : fr + q ≤ en) : bk ((l.take (en + 1)).drop fr) q = bk l (fr + q) := by
  unfold bk
  rw [rd_get l (fr + q) (by omega), rd_get _ q (by rw [List.length_drop, List.length_take]; omega)]
  simp
theorem part_ev (l : List CL) (wd : Int) (hl : l.length ≤ 300) (h0 : -9223372036854775808 ≤ wd) (h1 : wd ≤ 9223372036854775807) (fr : Nat) (hf : fr < l.length) : ∃ r, Ev (fun k => wrap_Lines.part k l wd (fr : Int)) (ansV l r) ∧ Step l wd fr r := by
  have hfit := fits_ev l (fr : Int) wd hl h0 h1
  obtain ⟨a, ha, hal, h2, _, _⟩ := clampF l (fr : Int)
  have hfr := h2 (by omega) (by omega)
  obtain rfl : a = fr := by omega
  unfold fitF at hfit
  rw [ha, Int.toNat_natCast] at hfit
  have hle := fitA_le (l.drop a) wd
  rw [List.length_drop] at hle
  unfold wrap_Lines.part
  by_cases c1 : a + fitA (l.drop a) wd = l.length
  · refine ⟨(l.length, l.length), Ev.bind hfit (Ev.ifp (by omega) (Ev.val (Ev.now _) ?_)), .inl ⟨c1, rfl⟩⟩
    unfold ansV
    rw [show (a : Int) + ((fitA (l.drop a) wd : Nat) : Int) = (l.length : Int) from by omega]
    simp
  · obtain ⟨en, hen⟩ : ∃ en, a + fitA (l.drop a) wd = en := ⟨_, rfl⟩
    have he : en < l.length := by omega
    have e1 : (a : Int) + ((fitA (l.drop a) wd : Nat) : Int) = (en : Int) := by omega
    rw [e1] at hfit
    have e2 : ((en : Int) + 1).toNat = en + 1 := by omega
    have key : ∃ o, IsLast l a en o ∧ Ev (fun k => wrap_Lines.pl k l wd (a : Int) (wrap_Lines.ix ((l.take (en + 1)).drop a) 0) (en : Int) (en : Int)) (ansV l (endV l a en o)) := by
      have hml : ((l.take (en + 1)).drop a).length = en + 1 - a := by rw [List.length_drop, List.length_take]; omega
      rcases ix_spec ((l.take (en + 1)).drop a) 0 with ⟨h3, h4⟩ | ⟨n, h3, h4, h5, h6⟩
      · rw [h3]
        refine ⟨none, fun q hq1 hq2 hg => ?_, pl_none l wd a en en⟩
        obtain ⟨_, j, hj1, hj2, hj3⟩ := hg
        have := h4 (j - a) (by omega)
        rw [bk_mid l a en (j - a) he (by omega), show a + (j - a) = j from by omega, hj3] at this
        cases this
      · rw [h3, Int.zero_add]
        refine ⟨dn l (a + n) en, ?_, pl_ev l wd hl a n en he en (Nat.le_refl _)⟩
        rw [bk_mid l a en n he (by omega)] at h6
        have good : ∀ q, Good l a q → q ≤ en → a + n < q := fun q ⟨_, j, hj1, hj2, hj3⟩ hq => by
          by_cases c : j < a + n
          · have := h5 (j - a) (by omega)
            rw [bk_mid l a en (j - a) he (by omega), show a + (j - a) = j from by omega, hj3] at this
            cases this
          · omega
        obtain ⟨d1, d2⟩ := dn_spec l (a + n) en
        cases hd : dn l (a + n) en with
        | none =>
          intro q hq1 hq2 hg
          have := d2 hd q (good q hg hq2) hq2
          rw [hg.1] at this
          cases this
        | some i =>
          obtain ⟨g1, g2, g3, g4⟩ := d1 i hd
          refine ⟨by omega, g2, ⟨g3, a + n, by omega, g1, h6⟩, fun q hq1 hq2 hg => ?_⟩
          have := g4 q hq1 hq2
          rw [hg.1] at this
          cases this
    obtain ⟨o, ho1, ho2⟩ := key
    refine ⟨endV l a en o, Ev.bind hfit (Ev.ifn (by omega) (Ev.ifp ⟨by omega, by omega, by omega, by omega⟩ ?_)), .inr ⟨by omega, o, by rw [hen]; exact ho1, by rw [hen]⟩⟩
    rw [e2, Int.toNat_natCast]
    exact ho2
end Go.Proofs.Ytieffcjbbhigbaa.Pure
