/- Chapter 17: how many clusters fit, in plain Lean (the program's and the document's). Conditions: whole numbers are int64, at most 300 clusters. -/
import Derived.Test.YtieffcjbbhigbaaPC17x4
import Derived.Test.YtieffcjbbhigbaaPC17x13
import Derived.Test.YtieffcjbbhigbaaHRnd
namespace Go.Proofs.Ytieffcjbbhigbaa.Pure
open Go.RowKit Go.Proofs.Ytieffcjbbhigbaa.PC17 Go.Proofs.YtieffcjbbhigbaaW.PrintWords Go.Proofs.YtieffcjbbhigbaaW.PrintLast Go.Proofs.YtieffcjbbhigbaaW.PrintMore Go.Proofs.YtieffcjbbhigbaaH
set_option linter.unusedVariables false

abbrev CL := S39
abbrev LN := S29
theorem mx_def (a b : Int) : mx a b = if a < b then b else a := rfl
theorem mn_def (a b : Int) : mn a b = if b < a then b else a := rfl
/-- What a cluster takes, at least none. -/
def wv (c : CL) : Int := mx c.f4 0
theorem wv_nn (c : CL) : 0 ≤ wv c := by unfold wv; rw [mx_def]; split <;> omega
/-- How many of a list's clusters fit. -/
def fitA : List CL → Int → Nat
  | [], _ => 0
  | c :: r, w => if wv c > w then 0 else fitA r (w - wv c) + 1
theorem fitA_le : ∀ (r : List CL) (w : Int), fitA r w ≤ r.length
  | [], _ => Nat.le_refl _
  | c :: r, w => by
    simp only [fitA]
    split
    · simp
    · have := fitA_le r (w - wv c)
      simp only [List.length_cons]
      omega
theorem fitA_take : ∀ (r : List CL) (w : Int) (d : Nat), fitA (r.take d) w = min d (fitA r w)
  | [], w, d => by simp [fitA]
  | c :: r, w, 0 => by simp [fitA]
  | c :: r, w, d + 1 => by
    rw [List.take_succ_cons]
    simp only [fitA]
    split
    · simp
    · rw [fitA_take r (w - wv c) d]
      omega
theorem rd_c (pre : List CL) (c : CL) (r : List CL) : rd_T39 (pre ++ c :: r) (pre.length : Int) = c := by
  unfold rd_T39
  simp
theorem fits_l0 : ∀ (r pre : List CL) (w : Int), (pre ++ r).length ≤ 300 → -9223372036854775808 ≤ w → w ≤ 9223372036854775807 → Ev (fun k => wrap_Fits.l0 k (pre ++ r) (pre.length : Int) w) ((pre.length : Int) + (fitA r w : Nat))
  | [], pre, w, hl, h0, h1 => by
    refine Ev.succ ?_
    simp only [wrap_Fits.l0]
    refine Ev.ifn (by simp) (Ev.val (Ev.now _) (by simp [fitA]))
  | c :: r, pre, w, hl, h0, h1 => by
    have hlen : (pre ++ c :: r).length = pre.length + (r.length + 1) := by simp
    refine Ev.succ ?_
    simp only [wrap_Fits.l0]
    rw [rd_c]
    refine Ev.ifp (by omega) (Ev.ifp (by omega) ?_)
    have hw := wv_nn c
    have e0 : mx c.f4 0 = wv c := rfl
    rw [e0]
    by_cases h : wv c > w
    · refine Ev.ifp h (Ev.val (Ev.now _) ?_)
      simp [fitA, h]
    · have ih := fits_l0 r (pre ++ [c]) (w - wv c) (by simp at hl ⊢; omega) (by omega) (by omega)
      rw [List.append_assoc] at ih
      refine Ev.ifn h ?_
      rw [w64 (by omega) (by omega), w64 (by omega) (by omega)]
      have e1 : (pre.length : Int) + 1 = ((pre ++ [c]).length : Int) := by simp
      rw [e1]
      refine Ev.val ih ?_
      simp only [fitA, if_neg h, List.length_append, List.length_cons, List.length_nil]
      omega
/-- Up to where they fit, from one on. -/
def fitF (l : List CL) (fr w : Int) : Int := mn (mx fr 0) (l.length : Int) + (fitA (l.drop (mn (mx fr 0) (l.length : Int)).toNat) w : Nat)
theorem fits_at (l : List CL) (a : Nat) (w : Int) (hl : l.length ≤ 300) (ha : a ≤ l.length) (h0 : -9223372036854775808 ≤ w) (h1 : w ≤ 9223372036854775807) : Ev (fun k => wrap_Fits.l0 k l (a : Int) w) ((a : Int) + (fitA (l.drop a) w : Nat)) := by
  have := fits_l0 (l.drop a) (l.take a) w (by rw [List.take_append_drop]; exact hl) h0 h1
  rw [List.take_append_drop, List.length_take, Nat.min_eq_left ha] at this
  exact this
theorem clampF (l : List CL) (fr : Int) : ∃ a : Nat, mn (mx fr 0) (l.length : Int) = (a : Int) ∧ a ≤ l.length ∧ (0 ≤ fr → fr ≤ (l.length : Int) → (a : Int) = fr) ∧ (fr < 0 → a = 0) ∧ ((l.length : Int) ≤ fr → a = l.length) := by
  rw [mx_def, mn_def]
  split
  · split
    · exact ⟨l.length, rfl, Nat.le_refl _, by omega, by omega, fun _ => rfl⟩
    · exact ⟨0, rfl, by omega, by omega, fun _ => rfl, by omega⟩
  · split
    · exact ⟨l.length, rfl, Nat.le_refl _, by omega, by omega, fun _ => rfl⟩
    · exact ⟨fr.toNat, by omega, by omega, by omega, by omega, by omega⟩
theorem fits_ev (l : List CL) (fr w : Int) (hl : l.length ≤ 300) (h0 : -9223372036854775808 ≤ w) (h1 : w ≤ 9223372036854775807) : Ev (fun k => wrap_Fits.f k l fr w) (fitF l fr w) := by
  unfold wrap_Fits.f fitF
  obtain ⟨a, ha, hal, _⟩ := clampF l fr
  rw [ha, Int.toNat_natCast]
  exact fits_at l a w hl hal h0 h1
theorem more_l0 : ∀ (r pre : List CL) (w : Int), (pre ++ r).length ≤ 300 → -9223372036854775808 ≤ w → w ≤ 9223372036854775807 → Ev (fun k => parquetryref17_More.l0 k (pre ++ r) w (pre.length : Int)) (decide (fitA r w < r.length))
  | [], pre, w, hl, h0, h1 => by
    refine Ev.succ ?_
    simp only [parquetryref17_More.l0]
    refine Ev.ifn (by simp) (Ev.val (Ev.now _) (by simp [fitA]))
  | c :: r, pre, w, hl, h0, h1 => by
    have hlen : (pre ++ c :: r).length = pre.length + (r.length + 1) := by simp
    refine Ev.succ ?_
    simp only [parquetryref17_More.l0]
    rw [rd_c]
    refine Ev.ifp (by omega) (Ev.ifp (by omega) ?_)
    have hw := wv_nn c
    have e0 : mx c.f4 0 = wv c := rfl
    rw [e0]
    by_cases h : wv c > w
    · refine Ev.ifp h (Ev.val (Ev.now _) ?_)
      simp [fitA, h]
    · have ih := more_l0 r (pre ++ [c]) (w - wv c) (by simp at hl ⊢; omega) (by omega) (by omega)
      rw [List.append_assoc] at ih
      refine Ev.ifn h ?_
      rw [w64 (by omega) (by omega), w64 (by omega) (by omega)]
      have e1 : (pre.length : Int) + 1 = ((pre ++ [c]).length : Int) := by simp
      rw [e1]
      refine Ev.val ih ?_
      simp only [fitA, if_neg h, List.length_cons]
      apply decide_eq_decide.2
      omega
theorem more_ev (l : List CL) (w : Int) (hl : l.length ≤ 300) (h0 : -9223372036854775808 ≤ w) (h1 : w ≤ 9223372036854775807) : Ev (fun k => parquetryref17_More.f k l w) (decide (fitA l w < l.length)) := by
  unfold parquetryref17_More.f
  exact more_l0 l [] w hl h0 h1
theorem refFits_l0 (l : List CL) (a : Nat) (w : Int) (hl : l.length ≤ 300) (ha : a ≤ l.length) (h0 : -9223372036854775808 ≤ w) (h1 : w ≤ 9223372036854775807) : ∀ (n d : Nat), d + n = fitA (l.drop a) w → Ev (fun k => parquetryref17_Fits.l0 k l (a : Int) w ((a + d : Nat) : Int)) ((a : Int) + (fitA (l.drop a) w : Nat)) := by
  have hle := fitA_le (l.drop a) w
  rw [List.length_drop] at hle
  have hm : ∀ d, a + d < l.length → (((l.take (a + d + 1)).drop a).length = d + 1 ∧ fitA ((l.take (a + d + 1)).drop a) w = min (d + 1) (fitA (l.drop a) w)) := fun d hd => by
    have e : (l.take (a + d + 1)).drop a = (l.drop a).take (d + 1) := by
      rw [List.drop_take]
      congr 1
      omega
    rw [e]
    exact ⟨by rw [List.length_take, List.length_drop]; omega, fitA_take _ _ _⟩
  intro n
  induction n with
  | zero =>
    intro d hd
    refine Ev.succ ?_
    simp only [parquetryref17_Fits.l0]
    by_cases h : ((a + d : Nat) : Int) < (l.length : Int)
    · have hw : wrap64 (((a + d : Nat) : Int) + 1) = ((a + d + 1 : Nat) : Int) := by rw [w64 (by omega) (by omega)]; omega
      rw [hw, Int.toNat_natCast, Int.toNat_natCast]
      obtain ⟨e1, e2⟩ := hm d (by omega)
      have key := more_ev ((l.take (a + d + 1)).drop a) w (by rw [e1]; omega) h0 h1
      rw [e1, e2, decide_eq_true (by omega)] at key
      exact Ev.ifp h (Ev.ifp (by omega) (Ev.ifp (by omega) (Ev.ifp (by omega) (Ev.bind key (Ev.ifp rfl (Ev.val (Ev.now _) (by omega)))))))
    · exact Ev.ifn h (Ev.val (Ev.now _) (by omega))
  | succ n ih =>
    intro d hd
    refine Ev.succ ?_
    simp only [parquetryref17_Fits.l0]
    have h : ((a + d : Nat) : Int) < (l.length : Int) := by omega
    have hw : wrap64 (((a + d : Nat) : Int) + 1) = ((a + d + 1 : Nat) : Int) := by rw [w64 (by omega) (by omega)]; omega
    rw [hw, Int.toNat_natCast, Int.toNat_natCast]
    obtain ⟨e1, e2⟩ := hm d (by omega)
    have key := more_ev ((l.take (a + d + 1)).drop a) w (by rw [e1]; omega) h0 h1
    rw [e1, e2, decide_eq_false (by omega)] at key
    exact Ev.ifp h (Ev.ifp (by omega) (Ev.ifp (by omega) (Ev.ifp (by omega) (Ev.bind key (Ev.ifn (by decide) (ih (d + 1) (by omega)))))))
theorem refFits_at (l : List CL) (a : Nat) (w : Int) (hl : l.length ≤ 300) (ha : a ≤ l.length) (h0 : -9223372036854775808 ≤ w) (h1 : w ≤ 9223372036854775807) : Ev (fun k => parquetryref17_Fits.j0 k l (a : Int) w) ((a : Int) + (fitA (l.drop a) w : Nat)) := by
  refine Ev.succ ?_
  simp only [parquetryref17_Fits.j0]
  by_cases h : (a : Int) ≥ (l.length : Int)
  · refine Ev.ifp h (Ev.val (Ev.now _) ?_)
    have := fitA_le (l.drop a) w
    rw [List.length_drop] at this
    omega
  · exact Ev.ifn h (refFits_l0 l a w hl ha h0 h1 (fitA (l.drop a) w) 0 (Nat.zero_add _))
theorem refFits_ev (l : List CL) (fr w : Int) (hl : l.length ≤ 300) (h0 : -9223372036854775808 ≤ w) (h1 : w ≤ 9223372036854775807) : Ev (fun k => parquetryref17_Fits.f k l fr w) (fitF l fr w) := by
  unfold parquetryref17_Fits.f fitF
  obtain ⟨a, ha, hal, h2, h3, h4⟩ := clampF l fr
  rw [ha, Int.toNat_natCast]
  by_cases h : fr < 0
  · obtain rfl := h3 h
    exact Ev.ifp h (refFits_at l 0 w hl (Nat.zero_le _) h0 h1)
  · refine Ev.ifn h ?_
    by_cases h5 : fr ≤ (l.length : Int)
    · obtain rfl : (a : Int) = fr := h2 (by omega) h5
      exact refFits_at l a w hl hal h0 h1
    · obtain rfl := h4 (by omega)
      refine Ev.succ ?_
      simp only [parquetryref17_Fits.j0]
      refine Ev.ifp (by omega) (Ev.val (Ev.now _) ?_)
      rw [List.drop_length]
      simp [fitA]
end Go.Proofs.Ytieffcjbbhigbaa.Pure
