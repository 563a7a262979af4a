/- Chapter 17: the document's line is the program's, in plain Lean. Conditions: whole numbers are int64, at most 300 clusters. -/
import Derived.Test.YtieffcjbbhigbaaHD17
namespace Go.Proofs.Ytieffcjbbhigbaa.Pure
open Go.RowKit Go.Proofs.Ytieffcjbbhigbaa.PC17 Go.Proofs.YtieffcjbbhigbaaW.PrintWords Go.Proofs.YtieffcjbbhigbaaW.PrintLast Go.Proofs.YtieffcjbbhigbaaW.PrintMore Go.Proofs.YtieffcjbbhigbaaH
set_option linter.unusedVariables false

def pairV (r : Nat × Nat) : Int × Int := ((r.1 : Int), (r.2 : Int))
theorem rfw_ev (l : List CL) (hl : l.length ≤ 300) : ∀ n (i x4 : Nat), i + n = l.length → Ev (fun k => parquetryref17_first.l2 k l (x4 : Int) (i : Int)) (pairV (re l i, x4)) := by
  intro n
  induction n with
  | zero =>
    intro i x4 hi
    refine Ev.succ ?_
    simp only [parquetryref17_first.l2]
    rw [re_over l i (by omega)]
    exact Ev.ifn (by omega) (Ev.now _)
  | succ n ih =>
    intro i x4 hi
    refine Ev.succ ?_
    simp only [parquetryref17_first.l2]
    refine Ev.ifp (by omega) (Ev.ifp (by omega) (Ev.bindc rfl ?_))
    cases hb : bk l i
    · rw [re_no l i (by omega) hb]
      unfold bk at hb
      exact Ev.ifn (by rw [hb]; decide) (Ev.now _)
    · rw [re_yes l i (by omega) hb, show wrap64 ((i : Int) + 1) = ((i + 1 : Nat) : Int) from by rw [w64 (by omega) (by omega)]; omega]
      unfold bk at hb
      exact Ev.ifp hb (ih (i + 1) x4 (by omega))
theorem rback_ev (l : List CL) (hl : l.length ≤ 300) (x5 : Nat) (h5 : x5 ≤ l.length) : ∀ (x4 : Nat), x4 ≤ l.length → Ev (fun k => parquetryref17_first.l1 k l (x4 : Int) (x5 : Int)) (pairV (re l x5, rs l x4)) := by
  intro x4
  induction x4 with
  | zero =>
    intro _
    refine Ev.succ ?_
    simp only [parquetryref17_first.l1]
    refine Ev.ifn (by omega) (Ev.succ ?_)
    simp only [parquetryref17_first.j2]
    exact rfw_ev l hl (l.length - x5) x5 0 (by omega)
  | succ x4 ih =>
    intro h4
    refine Ev.succ ?_
    simp only [parquetryref17_first.l1]
    rw [show wrap64 (((x4 + 1 : Nat) : Int) - 1) = (x4 : Int) from by rw [w64 (by omega) (by omega)]; omega]
    refine Ev.ifp (by omega) (Ev.ifp (by omega) (Ev.ifp (by omega) (Ev.bindc rfl ?_)))
    unfold rs
    cases hb : bk l x4
    · rw [if_neg (by decide)]
      unfold bk at hb
      refine Ev.ifn (by rw [hb]; decide) (Ev.succ ?_)
      simp only [parquetryref17_first.j2]
      exact rfw_ev l hl (l.length - x5) x5 (x4 + 1) (by omega)
    · rw [if_pos rfl]
      unfold bk at hb
      exact Ev.ifp hb (ih (by omega))
/-- The last one so far, as the document keeps it. -/
def lastE : Option Nat → Int
  | none => -1
  | some i => (i : Int)
theorem rend_ev (l : List CL) (hl : l.length ≤ 300) (fr en : Nat) (he : en < l.length) (hfe : fr ≤ en) (o : Option Nat) (ho : IsLast l fr en o) (wo : Bool) : Ev (fun k => parquetryref17_first.l0 k l (fr : Int) (en : Int) (lastE o) wo ((en + 1 : Nat) : Int)) (pairV (endV l fr en o)) := by
  refine Ev.succ ?_
  simp only [parquetryref17_first.l0]
  refine Ev.ifn (by omega) ?_
  cases o with
  | none =>
    refine Ev.ifp (show (-1 : Int) < 0 by decide) ?_
    by_cases h : (en : Int) = (fr : Int)
    · refine Ev.ifp h (Ev.val (Ev.now _) ?_)
      rw [w64 (by omega) (by omega)]
      simp only [endV, pairV, Prod.mk.injEq]
      omega
    · refine Ev.ifn h (Ev.val (Ev.now _) ?_)
      simp only [endV, pairV, Prod.mk.injEq]
      omega
  | some i =>
    obtain ⟨g1, g2, ⟨g3, _⟩, _⟩ := ho
    refine Ev.ifn (show ¬ (i : Int) < 0 by omega) ?_
    unfold lastE
    simp only [endV]
    rw [show wrap64 ((i : Int) + 1) = ((i + 1 : Nat) : Int) from by rw [w64 (by omega) (by omega)]; omega, re_yes l i (by omega) g3]
    exact rback_ev l hl (i + 1) (by omega) i (by omega)
/-- Whether a word stands between. -/
def Word (l : List CL) (fr i : Nat) : Prop := ∃ j, fr ≤ j ∧ j < i ∧ bk l j = false
/-- The last one ahead of a place. -/
def LastU (l : List CL) (fr i : Nat) : Option Nat → Prop
  | some q => fr ≤ q ∧ q < i ∧ Good l fr q ∧ ∀ x, q < x → x < i → ¬ Good l fr x
  | none => ∀ x, fr ≤ x → x < i → ¬ Good l fr x
theorem rloop_ev (l : List CL) (hl : l.length ≤ 300) (fr en : Nat) (he : en < l.length) (hfe : fr ≤ en) : ∀ n (i : Nat) (o : Option Nat) (wo : Bool), fr ≤ i → i + n = en + 1 → 0 < i ∨ i = fr → (wo = true ↔ Word l fr i) → LastU l fr i o →
    ∃ o', IsLast l fr en o' ∧ Ev (fun k => parquetryref17_first.l0 k l (fr : Int) (en : Int) (lastE o) wo (i : Int)) (pairV (endV l fr en o')) := by
  intro n
  induction n with
  | zero =>
    intro i o wo hf hi _ hw ho
    obtain rfl : i = en + 1 := by omega
    have key : IsLast l fr en o := by
      cases o with
      | none => exact fun q h1 h2 => ho q h1 (by omega)
      | some q => exact ⟨ho.1, by have := ho.2.1; omega, ho.2.2.1, fun x h1 h2 => ho.2.2.2 x h1 (by omega)⟩
    exact ⟨o, key, rend_ev l hl fr en he hfe o key wo⟩
  | succ n ih =>
    intro i o wo hf hi _ hw ho
    have e1 : wrap64 ((i : Int) + 1) = ((i + 1 : Nat) : Int) := by rw [w64 (by omega) (by omega)]; omega
    have old : ¬ Good l fr i → LastU l fr (i + 1) o := fun hg => by
      cases o with
      | none =>
        intro x h1 h2
        by_cases e : x = i
        · rw [e]; exact hg
        · exact ho x h1 (by omega)
      | some q =>
        refine ⟨ho.1, by have := ho.2.1; omega, ho.2.2.1, fun x h1 h2 => ?_⟩
        by_cases e : x = i
        · rw [e]; exact hg
        · exact ho.2.2.2 x h1 (by omega)
    have step : ∀ (o2 : Option Nat) (wo2 : Bool), (wo2 = true ↔ Word l fr (i + 1)) → LastU l fr (i + 1) o2 →
        ∃ o', IsLast l fr en o' ∧ Ev (fun k => parquetryref17_first.l0 k l (fr : Int) (en : Int) (lastE o2) wo2 ((i + 1 : Nat) : Int)) (pairV (endV l fr en o')) := fun o2 wo2 h1 h2 => ih (i + 1) o2 wo2 (by omega) (by omega) (by omega) h1 h2
    have go : ∀ (o' : Option Nat) (A : Nat → Option (Int × Int)), (∀ k, parquetryref17_first.l0 (k + 1) l (fr : Int) (en : Int) (lastE o) wo (i : Int) = A k) → Ev A (pairV (endV l fr en o')) → Ev (fun k => parquetryref17_first.l0 k l (fr : Int) (en : Int) (lastE o) wo (i : Int)) (pairV (endV l fr en o')) := fun o' A h1 h2 => Ev.step h1 h2
    cases hb : bk l i
    · -- no blank
      have hw2 : (true = true ↔ Word l fr (i + 1)) := ⟨fun _ => ⟨i, hf, by omega, hb⟩, fun _ => rfl⟩
      obtain ⟨o', k1, k2⟩ := step o true hw2 (old (fun h => by rw [h.1] at hb; cases hb))
      refine ⟨o', k1, Ev.succ ?_⟩
      simp only [parquetryref17_first.l0]
      rw [e1]
      unfold bk at hb
      refine Ev.ifp (by omega) (Ev.ifp (by omega) (Ev.ifp (by omega) (Ev.bindc rfl (Ev.ifn (by rw [hb]; decide) ?_))))
      cases wo
      · refine Ev.ifn (by decide) (Ev.bindc rfl ?_)
        rw [hb]
        exact k2
      · exact Ev.ifp rfl k2
    · have hw2 : (wo = true ↔ Word l fr (i + 1)) := ⟨fun h => by obtain ⟨j, h1, h2, h3⟩ := hw.1 h; exact ⟨j, h1, by omega, h3⟩, fun ⟨j, h1, h2, h3⟩ => hw.2 ⟨j, h1, by
        by_cases e : j = i
        · rw [e, hb] at h3; cases h3
        · omega, h3⟩⟩
      cases hwo : wo
      · have hng : ¬ Good l fr i := fun ⟨_, j, h1, h2, h3⟩ => by
          have := hw.2 ⟨j, h1, h2, h3⟩
          rw [hwo] at this
          cases this
        rw [hwo] at hw2
        obtain ⟨o', k1, k2⟩ := step o false hw2 (old hng)
        refine ⟨o', k1, Ev.succ ?_⟩
        simp only [parquetryref17_first.l0]
        rw [e1]
        unfold bk at hb
        refine Ev.ifp (by omega) (Ev.ifp (by omega) (Ev.ifp (by omega) (Ev.bindc rfl (Ev.ifp hb (Ev.ifn (by decide) (Ev.bindc rfl ?_))))))
        rw [hb]
        exact k2
      · have hg : Good l fr i := ⟨hb, hw.1 hwo⟩
        rw [hwo] at hw2
        obtain ⟨o', k1, k2⟩ := step (some i) true hw2 ⟨hf, by omega, hg, fun x h1 h2 => by omega⟩
        refine ⟨o', k1, Ev.succ ?_⟩
        simp only [parquetryref17_first.l0]
        rw [e1]
        unfold bk at hb
        exact Ev.ifp (by omega) (Ev.ifp (by omega) (Ev.ifp (by omega) (Ev.bindc rfl (Ev.ifp hb (Ev.ifp trivial k2)))))
theorem first_ev (l : List CL) (wd : Int) (hl : l.length ≤ 300) (h0 : -9223372036854775808 ≤ wd) (h1 : wd ≤ 9223372036854775807) (fr : Nat) (hf : fr < l.length) : ∃ r, Ev (fun k => parquetryref17_first.f k l (fr : Int) wd) (pairV r) ∧ Step l wd fr r := by
  have hfit := refFits_ev l (fr : Int) wd hl h0 h1
  obtain ⟨a, ha, hal, h2, _, _⟩ := clampF l (fr : Int)
  have hfr := h2 (by omega) (by omega)
  obtain rfl : a = fr := by omega
  unfold fitF at hfit
  rw [ha, Int.toNat_natCast] at hfit
  have hle := fitA_le (l.drop a) wd
  rw [List.length_drop] at hle
  have hm := more_ev (l.drop a) wd (by rw [List.length_drop]; omega) h0 h1
  rw [List.length_drop] at hm
  unfold parquetryref17_first.f
  rw [Int.toNat_natCast]
  by_cases c1 : a + fitA (l.drop a) wd = l.length
  · rw [decide_eq_false (by omega)] at hm
    exact ⟨(l.length, l.length), Ev.ifp (by omega) (Ev.ifp (by omega) (Ev.bind hm (Ev.ifn (by decide) (Ev.now _)))), .inl ⟨c1, rfl⟩⟩
  · rw [decide_eq_true (by omega)] at hm
    obtain ⟨en, hen⟩ : ∃ en, a + fitA (l.drop a) wd = en := ⟨_, rfl⟩
    have e1 : (a : Int) + ((fitA (l.drop a) wd : Nat) : Int) = (en : Int) := by omega
    rw [e1] at hfit
    obtain ⟨o, ho1, ho2⟩ := rloop_ev l hl a en (by omega) (by omega) (en + 1 - a) a none false (Nat.le_refl _) (by omega) (.inr rfl) ⟨fun h => (by cases h), fun ⟨j, h1, h2, _⟩ => by omega⟩ (fun x h1 h2 => by omega)
    exact ⟨endV l a en o, Ev.ifp (by omega) (Ev.ifp (by omega) (Ev.bind hm (Ev.ifp rfl (Ev.bind hfit ho2)))), .inr ⟨by omega, o, by rw [hen]; exact ho1, by rw [hen]⟩⟩
end Go.Proofs.Ytieffcjbbhigbaa.Pure
