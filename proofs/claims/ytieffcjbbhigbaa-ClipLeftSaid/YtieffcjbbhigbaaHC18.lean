/- Chapter 18: what clip.Clip, clip.Cut and clip.All tell, in plain Lean (the pure functions over lists). Conditions: whole numbers are int64, lists are short. -/
import Derived.Test.YtieffcjbbhigbaaPC18x9
import Derived.Test.YtieffcjbbhigbaaHEv
namespace Go.Proofs.Ytieffcjbbhigbaa.Pure
open Go.RowKit Go.Proofs.Ytieffcjbbhigbaa.PC18 Go.Proofs.YtieffcjbbhigbaaW.PrintWords Go.Proofs.YtieffcjbbhigbaaW.PrintLast Go.Proofs.YtieffcjbbhigbaaW.PrintMore Go.Proofs.YtieffcjbbhigbaaH
set_option linter.unusedVariables false
local notation "LN" => S29
local notation "CL" => S39

theorem mx_def (a b : Int) : mx a b = if a < b then b else a := rfl
theorem mn_def (a b : Int) : mn a b = if b < a then b else a := rfl
theorem wf64 {x : Int} (h : (Lit.int .i64 x).wf = true) : -9223372036854775808 ≤ x ∧ x ≤ 9223372036854775807 := by
  have h' := h
  simp [Lit.wf, IntKind.min, IntKind.max, IntKind.bits, IntKind.signed] at h'
  omega
theorem awake_ev : Ev (fun k => parquetrylaw18_awake.f k) true := Ev.now _
/-- What a cluster takes, at least none. -/
def wv (c : CL) : Int := mx c.f4 0
theorem wv_nn (c : CL) : 0 ≤ wv c := by unfold wv; rw [mx_def]; split <;> omega
/-- How many of a list's clusters fit. -/
def fitA : List CL → Int → Nat
  | [], _ => 0
  | c :: r, w => if wv c > w then 0 else fitA r (w - wv c) + 1
theorem fitA_le : ∀ (r : List CL) (w : Int), fitA r w ≤ r.length
  | [], _ => Nat.le_refl _
  | c :: r, w => by
    simp only [fitA]
    split
    · simp
    · have := fitA_le r (w - wv c)
      simp only [List.length_cons]
      omega
theorem rd_c (pre : List CL) (c : CL) (r : List CL) : rd_T39 (pre ++ c :: r) (pre.length : Int) = c := by
  unfold rd_T39
  simp
theorem fits_l0 : ∀ (r pre : List CL) (w : Int), (pre ++ r).length ≤ 300 → 0 ≤ w → w ≤ 9223372036854775807 → Ev (fun k => wrap_Fits.l0 k (pre ++ r) (pre.length : Int) w) ((pre.length : Int) + (fitA r w : Nat))
  | [], pre, w, hl, h0, h1 => by
    refine Ev.succ ?_
    simp only [wrap_Fits.l0]
    refine Ev.ifn (by simp) (Ev.val (Ev.now _) (by simp [fitA]))
  | c :: r, pre, w, hl, h0, h1 => by
    have hlen : (pre ++ c :: r).length = pre.length + (r.length + 1) := by simp
    refine Ev.succ ?_
    simp only [wrap_Fits.l0]
    rw [rd_c]
    refine Ev.ifp (by omega) (Ev.ifp (by omega) ?_)
    have hw := wv_nn c
    have e0 : mx c.f4 0 = wv c := rfl
    rw [e0]
    by_cases h : wv c > w
    · refine Ev.ifp h (Ev.val (Ev.now _) ?_)
      simp [fitA, h]
    · have ih := fits_l0 r (pre ++ [c]) (w - wv c) (by simp at hl ⊢; omega) (by omega) (by omega)
      rw [List.append_assoc] at ih
      refine Ev.ifn h ?_
      rw [w64 (by omega) (by omega), w64 (by omega) (by omega)]
      have e1 : (pre.length : Int) + 1 = ((pre ++ [c]).length : Int) := by simp
      rw [e1]
      refine Ev.val ih ?_
      simp only [fitA, if_neg h, List.length_append, List.length_cons, List.length_nil]
      omega
/-- May there be such a line? -/
def mayP (l : List CL) (a b c : Int) : Prop := 0 ≤ a ∧ a ≤ c ∧ c ≤ b ∧ b ≤ (l.length : Int)
instance (l : List CL) (a b c : Int) : Decidable (mayP l a b c) := inferInstanceAs (Decidable (_ ∧ _ ∧ _ ∧ _))
theorem may_eq (l : List CL) (a b c d e : Int) : clip_look_may.f a b c d e l = some (decide (mayP l a b c)) := by
  unfold clip_look_may.f mayP
  by_cases h1 : 0 ≤ a
  · rw [if_pos (by omega)]
    by_cases h2 : a ≤ c
    · rw [if_pos h2]
      by_cases h3 : c ≤ b
      · rw [if_pos h3]
        simp [h1, h2, h3]
      · rw [if_neg h3]
        simp [h1, h2, h3]
    · rw [if_neg h2]
      simp [h1, h2]
  · rw [if_neg (by omega)]
    simp [h1]
/-- The clusters between. -/
def mid (l : List CL) (a c : Int) : List CL := (l.take c.toNat).drop a.toNat
/-- Up to where it fits. -/
def fitV (l : List CL) (a c w : Int) : Int := if w < 0 then a else a + (fitA (mid l a c) w : Nat)
theorem mid_len (l : List CL) (a b c : Int) (h : mayP l a b c) : ((mid l a c).length : Int) = c - a := by
  obtain ⟨h1, h2, h3, h4⟩ := h
  unfold mid
  rw [List.length_drop, List.length_take]
  omega
theorem fitV_le (l : List CL) (a b c w : Int) (h : mayP l a b c) : a ≤ fitV l a c w ∧ fitV l a c w ≤ c := by
  have h1 := mid_len l a b c h
  have h2 := fitA_le (mid l a c) w
  obtain ⟨g1, g2, g3, g4⟩ := h
  unfold fitV
  split <;> omega
theorem look_fits (l : List CL) (a b c d e w : Int) (hl : l.length ≤ 300) (h : mayP l a b c) (hw : w ≤ 9223372036854775807) : Ev (fun k => clip_look_fits.f k a b c d e l w) (fitV l a c w) := by
  unfold clip_look_fits.f fitV
  obtain ⟨g1, g2, g3, g4⟩ := h
  by_cases h0 : w < 0
  · rw [if_pos h0]
    exact Ev.ifp h0 (Ev.now _)
  · rw [if_neg h0]
    refine Ev.ifn h0 (Ev.ifp (by omega) (Ev.ifp (by omega) (Ev.bind ?_ (Ev.now _))))
    have e : l.take c.toNat = (l.take c.toNat).take a.toNat ++ mid l a c := (List.take_append_drop _ _).symm
    have hlen : ((l.take c.toNat).take a.toNat).length = a.toNat := by
      rw [List.length_take, List.length_take]
      omega
    have hl2 : (l.take c.toNat).length ≤ 300 := by rw [List.length_take]; omega
    have key := fits_l0 (mid l a c) ((l.take c.toNat).take a.toNat) w (by rw [← e]; exact hl2) (by omega) hw
    rw [← e, hlen] at key
    unfold wrap_Fits.f
    have e2 : mn (mx a 0) ((l.take c.toNat).length : Int) = a := by
      rw [List.length_take, mx_def, mn_def]
      split <;> split <;> omega
    rw [e2]
    have e3 : ((a.toNat : Nat) : Int) = a := by omega
    rw [e3] at key
    exact key
/-- What it is cut to. -/
def cutV (l : List CL) (y : LN) (w : Int) : LN := ⟨y.f0, y.f1, fitV l y.f0 y.f2 (mx w 0 - 1), y.f3, 1⟩
/-- What it is clipped to. -/
def clipV (l : List CL) (y : LN) (w : Int) : LN := if fitV l y.f0 y.f2 (mx w 0) < y.f2 then cutV l y w else ⟨y.f0, y.f1, y.f2, y.f3, 0⟩
def tup (y : LN) : Int × Int × Int × Int × Int := (y.f0, y.f1, y.f2, y.f3, y.f4)
def tupE (y : LN) : Int × Int × Int × Int × Int × Int := (y.f0, y.f1, y.f2, y.f3, y.f4, 0)
theorem mx_le (w : Int) (hw : w ≤ 9223372036854775807) : 0 ≤ mx w 0 ∧ mx w 0 ≤ 9223372036854775807 := by
  rw [mx_def]
  split <;> omega
theorem look_cut (l : List CL) (a b c d e w : Int) (hl : l.length ≤ 300) (h : mayP l a b c) (hw : w ≤ 9223372036854775807) : Ev (fun k => clip_look_cut.f k a b c d e l w) (tup (cutV l ⟨a, b, c, d, e⟩ w)) := by
  have := mx_le w hw
  unfold clip_look_cut.f
  rw [w64 (by omega) (by omega)]
  exact Ev.bind (look_fits l a b c d e _ hl h (by omega)) (Ev.now _)
theorem look_clipped (l : List CL) (a b c d e w : Int) (hl : l.length ≤ 300) (h : mayP l a b c) (hw : w ≤ 9223372036854775807) : Ev (fun k => clip_look_clipped.f k a b c d e l w) (tup (clipV l ⟨a, b, c, d, e⟩ w)) := by
  have := mx_le w hw
  unfold clip_look_clipped.f clipV
  refine Ev.bind (look_fits l a b c d e _ hl h (by omega)) ?_
  by_cases hc : fitV l a c (mx w 0) < c
  · rw [if_pos hc]
    exact Ev.ifp hc (Ev.bind (look_cut l a b c d e w hl h hw) (Ev.now _))
  · rw [if_neg hc]
    exact Ev.ifn hc (Ev.now _)
theorem clip_ev (l : List CL) (a b c d e w : Int) (hl : l.length ≤ 300) (h : mayP l a b c) (hw : w ≤ 9223372036854775807) : Ev (fun k => clip_Clip.f k l a b c d e w) (tupE (clipV l ⟨a, b, c, d, e⟩ w)) := by
  unfold clip_Clip.f
  exact Ev.bindc (may_eq l a b c d e) (Ev.ifp (by simpa using h) (Ev.bind (look_clipped l a b c d e w hl h hw) (Ev.now _)))
theorem cut_ev (l : List CL) (a b c d e w : Int) (hl : l.length ≤ 300) (h : mayP l a b c) (hw : w ≤ 9223372036854775807) : Ev (fun k => clip_Cut.f k l a b c d e w) (tupE (cutV l ⟨a, b, c, d, e⟩ w)) := by
  unfold clip_Cut.f
  exact Ev.bindc (may_eq l a b c d e) (Ev.ifp (by simpa using h) (Ev.bind (look_cut l a b c d e w hl h hw) (Ev.now _)))
/-- What becomes of line i of N, where there is room for h. -/
def oneV (l : List CL) (w h : Int) (N i : Nat) (y : LN) : LN := if (i : Int) = h - 1 ∧ (i : Int) < (N : Int) - 1 then cutV l y w else clipV l y w
def outV (l : List CL) (w h : Int) (N : Nat) : Nat → List LN → List LN
  | _, [] => []
  | i, y :: r => if (i : Int) ≥ h then outV l w h N (i + 1) r else oneV l w h N i y :: outV l w h N (i + 1) r
def mayL (l : List CL) (y : LN) : Prop := mayP l y.f0 y.f1 y.f2
instance (l : List CL) (y : LN) : Decidable (mayL l y) := inferInstanceAs (Decidable (mayP _ _ _ _))
theorem rd_l (pre : List LN) (c : LN) (r : List LN) : rd_T29 (pre ++ c :: r) (pre.length : Int) = c := by
  unfold rd_T29
  simp
theorem all_l0 (l : List CL) (ls : List LN) (w h : Int) (hl : l.length ≤ 300) (hls : ls.length ≤ 100) (hw : w ≤ 9223372036854775807) (hh : -9223372036854775808 ≤ h ∧ h ≤ 9223372036854775807) :
    ∀ (r pre out : List LN), ls = pre ++ r → out.length ≤ pre.length → ∃ v, Ev (fun k => clip_All.l0 k l ls w h out 0 ls (ls.length : Int) (pre.length : Int)) v ∧ ((∀ y ∈ r, mayL l y) → v = (out ++ outV l w h ls.length pre.length r, 0)) ∧ ((¬ ∀ y ∈ r, mayL l y) → v = ([], 1))
  | [], pre, out, he, ho => by
    refine ⟨(out, 0), Ev.succ ?_, fun _ => by simp [outV], fun h => by simp at h⟩
    simp only [clip_All.l0]
    exact Ev.ifn (by rw [he]; simp) (Ev.now _)
  | y :: r, pre, out, he, ho => by
    have hlen : ls.length = pre.length + (r.length + 1) := by rw [he]; simp
    have hrd : rd_T29 ls (pre.length : Int) = y := by rw [he]; exact rd_l pre y r
    have e1 : wrap64 ((pre.length : Int) + 1) = ((pre ++ [y]).length : Int) := by rw [w64 (by omega) (by omega)]; simp
    have e2 : (pre ++ [y]).length = pre.length + 1 := by simp
    have he' : ls = (pre ++ [y]) ++ r := by rw [he]; simp
    by_cases hm : mayL l y
    · have ap : ∀ (P : Prop), ((∀ q ∈ y :: r, mayL l q) → P) ↔ ((∀ q ∈ r, mayL l q) → P) := fun P => ⟨fun h1 h2 => h1 (fun q hq => by rcases List.mem_cons.1 hq with rfl | hq; exact hm; exact h2 q hq), fun h1 h2 => h1 (fun q hq => h2 q (List.mem_cons_of_mem _ hq))⟩
      have an : (¬ ∀ q ∈ y :: r, mayL l q) → ¬ ∀ q ∈ r, mayL l q := fun h1 h2 => h1 (fun q hq => by rcases List.mem_cons.1 hq with rfl | hq; exact hm; exact h2 q hq)
      by_cases h1 : (pre.length : Int) ≥ h
      · obtain ⟨v, hv, hy, hn⟩ := all_l0 l ls w h hl hls hw hh r (pre ++ [y]) out he' (by omega)
        refine ⟨v, Ev.succ ?_, (ap _).2 (fun hq => ?_), fun hq => hn (an hq)⟩
        · simp only [clip_All.l0]
          rw [hrd, e1]
          exact Ev.ifp (by omega) (Ev.ifp (by omega) (Ev.ifp (by omega) (Ev.bindc (may_eq l _ _ _ _ _) (Ev.ifp (decide_eq_true hm) (Ev.ifp h1 hv)))))
        · rw [hy hq]
          simp only [outV]
          rw [if_pos h1, e2]
      · obtain ⟨v, hv, hy, hn⟩ := all_l0 l ls w h hl hls hw hh r (pre ++ [y]) (out ++ [oneV l w h ls.length pre.length y]) he' (by simp; omega)
        refine ⟨v, Ev.succ ?_, (ap _).2 (fun hq => ?_), fun hq => hn (an hq)⟩
        · simp only [clip_All.l0]
          rw [hrd, e1]
          refine Ev.ifp (by omega) (Ev.ifp (by omega) (Ev.ifp (by omega) (Ev.bindc (may_eq l _ _ _ _ _) (Ev.ifp (decide_eq_true hm) (Ev.ifn h1 ?_)))))
          rw [w64 (x := h - 1) (by omega) (by omega), w64 (x := (ls.length : Int) - 1) (by omega) (by omega)]
          by_cases h2 : (pre.length : Int) = h - 1
          · refine Ev.ifp h2 (Ev.succ ?_)
            simp only [clip_All.j1]
            by_cases h3 : (pre.length : Int) < (ls.length : Int) - 1
            · refine Ev.ifp (by simpa using h3) (Ev.bind (look_cut l _ _ _ _ _ w hl hm hw) (Ev.ifp (by omega) ?_))
              rw [e1]
              have e : oneV l w h ls.length pre.length y = cutV l y w := if_pos ⟨h2, h3⟩
              rw [e] at hv
              exact hv
            · refine Ev.ifn (by simpa using h3) (Ev.bind (look_clipped l _ _ _ _ _ w hl hm hw) (Ev.ifp (by omega) ?_))
              rw [e1]
              have e : oneV l w h ls.length pre.length y = clipV l y w := if_neg (fun hq => h3 hq.2)
              rw [e] at hv
              exact hv
          · refine Ev.ifn h2 (Ev.succ ?_)
            simp only [clip_All.j1]
            refine Ev.ifn (by simp) (Ev.bind (look_clipped l _ _ _ _ _ w hl hm hw) (Ev.ifp (by omega) ?_))
            rw [e1]
            have e : oneV l w h ls.length pre.length y = clipV l y w := if_neg (fun hq => h2 hq.1)
            rw [e] at hv
            exact hv
        · rw [hy hq]
          simp only [outV]
          rw [if_neg h1, e2]
          simp
    · refine ⟨([], 1), Ev.succ ?_, fun h => absurd (h y List.mem_cons_self) hm, fun _ => rfl⟩
      simp only [clip_All.l0]
      rw [hrd]
      exact Ev.ifp (by omega) (Ev.ifp (by omega) (Ev.ifp (by omega) (Ev.bindc (may_eq l _ _ _ _ _) (Ev.ifn (fun hq => hm (of_decide_eq_true hq)) (Ev.now _)))))
theorem outV_len (l : List CL) (w h : Int) (N : Nat) : ∀ (r : List LN) (i : Nat), (i : Int) ≤ mx h 0 → ((outV l w h N i r).length : Int) = mn (r.length : Int) (mx h 0 - i)
  | [], i, hi => by
    simp only [outV, List.length_nil]
    rw [mx_def] at hi ⊢
    rw [mn_def]
    split <;> split at hi <;> omega
  | y :: r, i, hi => by
    simp only [outV]
    by_cases h1 : (i : Int) ≥ h
    · rw [if_pos h1]
      have : outV l w h N (i + 1) r = [] := by
        have key : ∀ (q : List LN) (j : Nat), (j : Int) ≥ h → outV l w h N j q = [] := by
          intro q
          induction q with
          | nil => intro j _; rfl
          | cons x q ih =>
            intro j hj
            simp only [outV]
            rw [if_pos hj]
            exact ih (j + 1) (by omega)
        exact key r (i + 1) (by omega)
      rw [this]
      simp only [List.length_nil, List.length_cons]
      rw [mx_def] at hi ⊢
      rw [mn_def]
      split at hi <;> split <;> split <;> omega
    · rw [if_neg h1]
      have ih := outV_len l w h N r (i + 1) (by rw [mx_def]; split <;> omega)
      simp only [List.length_cons]
      rw [mn_def] at ih ⊢
      split at ih <;> split <;> omega
theorem outV_get (l : List CL) (w h : Int) (N : Nat) : ∀ (r : List LN) (i j : Nat), ((i + j : Nat) : Int) < h → j < r.length → (outV l w h N i r)[j]? = (r[j]?).map (oneV l w h N (i + j))
  | [], i, j, hi, hj => by simp at hj
  | y :: r, i, 0, hi, hj => by
    simp only [outV]
    rw [if_neg (by omega)]
    simp
  | y :: r, i, j + 1, hi, hj => by
    simp only [outV]
    rw [if_neg (by omega)]
    have ih := outV_get l w h N r (i + 1) j (by omega) (by simpa using hj)
    simp only [List.getElem?_cons_succ]
    rw [ih]
    have e : i + 1 + j = i + (j + 1) := by omega
    rw [e]
end Go.Proofs.Ytieffcjbbhigbaa.Pure
