/- Chapter 18: what clip.Clip, clip.Cut and clip.All tell, in plain Lean (the pure functions over lists). Conditions: whole numbers are int64, lists are short. -/
import Derived.Test.YtieffcjbbhigbaaPC18x8
import Derived.Test.YtieffcjbbhigbaaHEv
namespace Go.Proofs.Ytieffcjbbhigbaa.Pure
open Go.RowKit Go.Proofs.Ytieffcjbbhigbaa.PC18 Go.Proofs.YtieffcjbbhigbaaW.PrintWords Go.Proofs.YtieffcjbbhigbaaW.PrintLast Go.Proofs.YtieffcjbbhigbaaW.PrintMore Go.Proofs.YtieffcjbbhigbaaH
set_option linter.unusedVariables false

theorem mx_def (a b : Int) : mx a b = if a < b then b else a := rfl
theorem mn_def (a b : Int) : mn a b = if b < a then b else a := rfl
theorem wf64 {x : Int} (h : (Lit.int .i64 x).wf = true) : -9223372036854775808 ≤ x ∧ x ≤ 9223372036854775807 := by
  have h' := h
  simp [Lit.wf, IntKind.min, IntKind.max, IntKind.bits, IntKind.signed] at h'
  omega
theorem awake_ev : Ev (fun k => parquetrylaw18_awake.f k) true := Ev.now _
/-- What a cluster takes, at least none. -/
def wv (c : S39) : Int := mx c.f4 0
theorem wv_nn (c : S39) : 0 ≤ wv c := by unfold wv; rw [mx_def]; split <;> omega
/-- How many of a list's clusters fit. -/
def fitA : List S39 → Int → Nat
  | [], _ => 0
  | c :: r, w => if wv c > w then 0 else fitA r (w - wv c) + 1
theorem fitA_le : ∀ (r : List S39) (w : Int), fitA r w ≤ r.length
  | [], _ => Nat.le_refl _
  | c :: r, w => by
    simp only [fitA]
    split
    · simp
    · have := fitA_le r (w - wv c)
      simp only [List.length_cons]
      omega
theorem rd_c (pre : List S39) (c : S39) (r : List S39) : rd_T39 (pre ++ c :: r) (pre.length : Int) = c := by
  unfold rd_T39
  simp
theorem fits_l0 : ∀ (r pre : List S39) (w : Int), (pre ++ r).length ≤ 300 → 0 ≤ w → w ≤ 9223372036854775807 → Ev (fun k => wrap_Fits.l0 k (pre ++ r) (pre.length : Int) w) ((pre.length : Int) + (fitA r w : Nat))
  | [], pre, w, hl, h0, h1 => by
    refine Ev.succ ?_
    simp only [wrap_Fits.l0]
    refine Ev.ifn (by simp) (Ev.val (Ev.now _) (by simp [fitA]))
  | c :: r, pre, w, hl, h0, h1 => by
    have hlen : (pre ++ c :: r).length = pre.length + (r.length + 1) := by simp
    refine Ev.succ ?_
    simp only [wrap_Fits.l0]
    rw [rd_c]
    refine Ev.ifp (by omega) (Ev.ifp (by omega) ?_)
    have hw := wv_nn c
    have e0 : mx c.f4 0 = wv c := rfl
    rw [e0]
    by_cases h : wv c > w
    · refine Ev.ifp h (Ev.val (Ev.now _) ?_)
      simp [fitA, h]
    · have ih := fits_l0 r (pre ++ [c]) (w - wv c) (by simp at hl ⊢; omega) (by omega) (by omega)
      rw [List.append_assoc] at ih
      refine Ev.ifn h ?_
      rw [w64 (by omega) (by omega), w64 (by omega) (by omega)]
      have e1 : (pre.length : Int) + 1 = ((pre ++ [c]).length : Int) := by simp
      rw [e1]
      refine Ev.val ih ?_
      simp only [fitA, if_neg h, List.length_append, List.length_cons, List.length_nil]
      omega
/-- May there be such a line? -/
def mayP (l : List S39) (a b c : Int) : Prop := 0 ≤ a ∧ a ≤ c ∧ c ≤ b ∧ b ≤ (l.length : Int)
instance (l : List S39) (a b c : Int) : Decidable (mayP l a b c) := inferInstanceAs (Decidable (_ ∧ _ ∧ _ ∧ _))
theorem may_eq (l : List S39) (a b c d e : Int) : clip_look_may.f a b c d e l = some (decide (mayP l a b c)) := by
  unfold clip_look_may.f mayP
  by_cases h1 : 0 ≤ a
  · rw [if_pos (by omega)]
    by_cases h2 : a ≤ c
    · rw [if_pos h2]
      by_cases h3 : c ≤ b
      · rw [if_pos h3]
        simp [h1, h2, h3]
      · rw [if_neg h3]
        simp [h1, h2, h3]
    · rw [if_neg h2]
      simp [h1, h2]
  · rw [if_neg (by omega)]
    simp [h1]
/-- The clusters between. -/
def mid (l : List S39) (a c : Int) : List S39 := (l.take c.toNat).drop a.toNat
/-- Up to where it fits. -/
def fitV (l : List S39) (a c w : Int) : Int := if w < 0 then a else a + (fitA (mid l a c) w : Nat)
theorem mid_len (l : List S39) (a b c : Int) (h : mayP l a b c) : ((mid l a c).length : Int) = c - a := by
  obtain ⟨h1, h2, h3, h4⟩ := h
  unfold mid
  rw [List.length_drop, List.length_take]
  omega
theorem fitV_le (l : List S39) (a b c w : Int) (h : mayP l a b c) : a ≤ fitV l a c w ∧ fitV l a c w ≤ c := by
  have h1 := mid_len l a b c h
  have h2 := fitA_le (mid l a c) w
  obtain ⟨g1, g2, g3, g4⟩ := h
  unfold fitV
  split <;> omega
theorem look_fits (l : List S39) (a b c d e w : Int) (hl : l.length ≤ 300) (h : mayP l a b c) (hw : w ≤ 9223372036854775807) : Ev (fun k => clip_look_fits.f k a b c d e l w) (fitV l a c w) := by
  unfold clip_look_fits.f fitV
  obtain ⟨g1, g2, g3, g4⟩ := h
  by_cases h0 : w < 0
  · rw [if_pos h0]
    exact Ev.ifp h0 (Ev.now _)
  · rw [if_neg h0]
    refine Ev.ifn h0 (Ev.ifp (by omega) (Ev.ifp (by omega) (Ev.bind ?_ (Ev.now _))))
    have e : l.take c.toNat = (l.take c.toNat).take a.toNat ++ mid l a c := (List.take_append_drop _ _).symm
    have hlen : ((l.take c.toNat).take a.toNat).length = a.toNat := by
      rw [List.length_take, List.length_take]
      omega
    have hl2 : (l.take c.toNat).length ≤ 300 := by rw [List.length_take]; omega
    have key := fits_l0 (mid l a c) ((l.take c.toNat).take a.toNat) w (by rw [← e]; exact hl2) (by omega) hw
    rw [← e, hlen] at key
    unfold wrap_Fits.f
    have e2 : mn (mx a 0) ((l.take c.toNat).length : Int) = a := by
      rw [List.length_take, mx_def, mn_def]
      split <;> split <;> omega
    rw [e2]
    have e3 : ((a.toNat : Nat) : Int) = a := by omega
    rw [e3] at key
    exact key
/-- What it is cut to. -/
def cutV (l : List S39) (y : S29) (w : Int) : S29 := ⟨y.f0, y.f1, fitV l y.f0 y.f2 (mx w 0 - 1), y.f3, 1⟩
/-- What it is clipped to. -/
def clipV (l : List S39) (y : S29) (w : Int) : S29 := if fitV l y.f0 y.f2 (mx w 0) < y.f2 then cutV l y w else ⟨y.f0, y.f1, y.f2, y.f3, 0⟩
def tup (y : S29) : Int × Int × Int × Int × Int := (y.f0, y.f1, y.f2, y.f3, y.f4)
def tupE (y : S29) : Int × Int × Int × Int × Int × Int := (y.f0, y.f1, y.f2, y.f3, y.f4, 0)
theorem mx_le (w : Int) (hw : w ≤ 9223372036854775807) : 0 ≤ mx w 0 ∧ mx w 0 ≤ 9223372036854775807 := by
  rw [mx_def]
  split <;> omega
theorem look_cut (l : List S39) (a b c d e w : Int) (hl : l.length ≤ 300) (h : mayP l a b c) (hw : w ≤ 9223372036854775807) : Ev (fun k => clip_look_cut.f k a b c d e l w) (tup (cutV l ⟨a, b, c, d, e⟩ w)) := by
  have := mx_le w hw
  unfold clip_look_cut.f
  rw [w64 (by omega) (by omega)]
  exact Ev.bind (look_fits l a b c d e _ hl h (by omega)) (Ev.now _)
theorem look_clipped (l : List S39) (a b c d e w : Int) (hl : l.length ≤ 300) (h : mayP l a b c) (hw : w ≤ 9223372036854775807) : Ev (fun k => clip_look_clipped.f k a b c d e l w) (tup (clipV l ⟨a, b, c, d, e⟩ w)) := by
  have := mx_le w hw
  unfold clip_look_clipped.f clipV
  refine Ev.bind (look_fits l a b c d e _ hl h (by omega)) ?_
  by_cases hc : fitV l a c (mx w 0) < c
  · rw [if_pos hc]
    exact Ev.ifp hc (Ev.bind (look_cut l a b c d e w hl h hw) (Ev.now _))
  · rw [if_neg hc]
    exact Ev.ifn hc (Ev.now _)
theorem clip_ev (l : List S39) (a b c d e w : Int) (hl : l.length ≤ 300) (h : mayP l a b c) (hw : w ≤ 9223372036854775807) : Ev (fun k => clip_Clip.f k l a b c d e w) (tupE (clipV l ⟨a, b, c, d, e⟩ w)) := by
  unfold clip_Clip.f
  exact Ev.bindc (may_eq l a b c d e) (Ev.ifp (by simpa using h) (Ev.bind (look_clipped l a b c d e w hl h hw) (Ev.now _)))
theorem cut_ev (l : List S39) (a b c d e w : Int) (hl : l.length ≤ 300) (h : mayP l a b c) (hw : w ≤ 9223372036854775807) : Ev (fun k => clip_Cut.f k l a b c d e w) (tupE (cutV l ⟨a, b, c, d, e⟩ w)) := by
  unfold clip_Cut.f
  exact Ev.bindc (may_eq l a b c d e) (Ev.ifp (by simpa using h) (Ev.bind (look_cut l a b c d e w hl h hw) (Ev.now _)))
def mayL (l : List S39) (y : S29) : Prop := mayP l y.f0 y.f1 y.f2
instance (l : List S39) (y : S29) : Decidable (mayL l y) := inferInstanceAs (Decidable (mayP _ _ _ _))
end Go.Proofs.Ytieffcjbbhigbaa.Pure
