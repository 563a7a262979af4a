/- ClipFits: what any line that may be is clipped or cut to takes at most w slots; with dots it shows as much as fits beside them, without all that it showed, and clipped again it is the same (the pure statement over the printed Lean functions). Conditions: those of the statement. -/
import Derived.Test.YtieffcjbbhigbaaPC18x11
import Derived.Test.YtieffcjbbhigbaaHC18
namespace Go.Proofs.Ytieffcjbbhigbaa.Pure
open Go.RowKit Go.Proofs.Ytieffcjbbhigbaa.PC18 Go.Proofs.YtieffcjbbhigbaaW.PrintWords Go.Proofs.YtieffcjbbhigbaaW.PrintLast Go.Proofs.YtieffcjbbhigbaaW.PrintMore Go.Proofs.YtieffcjbbhigbaaH
set_option linter.unusedVariables false

/-- What a list's clusters take together. -/
def sumW : List S39 → Int
  | [] => 0
  | c :: r => wv c + sumW r
theorem sumW_nn : ∀ (r : List S39), 0 ≤ sumW r
  | [] => Int.le_refl _
  | c :: r => by
    have h1 := wv_nn c
    have h2 := sumW_nn r
    simp only [sumW]
    omega
theorem fitA_sum : ∀ (r : List S39) (w : Int), 0 ≤ w → sumW (r.take (fitA r w)) ≤ w
  | [], w, h => by simpa [fitA, sumW] using h
  | c :: r, w, h => by
    simp only [fitA]
    by_cases h1 : wv c > w
    · rw [if_pos h1]
      simpa [sumW] using h
    · rw [if_neg h1]
      have ih := fitA_sum r (w - wv c) (by omega)
      simp only [List.take_succ_cons, sumW]
      omega
/-- What a line takes, at most: its loop. -/
theorem wide_l0 (a b c d e : Int) (l xs : List S39) (hx : xs.length ≤ 300) : ∀ (r pre : List S39) (n : Int), xs = pre ++ r → 0 ≤ n → n ≤ 2147483647 →
    ∃ v, Ev (fun k => clip_Wide.l0 k n xs (xs.length : Int) (pre.length : Int) a b c d e l) v ∧ v ≤ n + sumW r + (if e = 1 then 1 else 0)
  | [], pre, n, hp, h0, h1 => by
    by_cases he : e = 1
    · refine ⟨mn (wrap64 (n + 1)) 2147483647, Ev.succ ?_, ?_⟩
      · simp only [clip_Wide.l0]
        exact Ev.ifn (by rw [hp]; simp) (Ev.ifp he (Ev.now _))
      · rw [if_pos he, w64 (by omega) (by omega), mn_def]
        simp only [sumW]
        split <;> omega
    · refine ⟨n, Ev.succ ?_, ?_⟩
      · simp only [clip_Wide.l0]
        exact Ev.ifn (by rw [hp]; simp) (Ev.ifn he (Ev.now _))
      · rw [if_neg he]
        simp only [sumW]
        omega
  | q :: r, pre, n, hp, h0, h1 => by
    have hlen : xs.length = pre.length + (r.length + 1) := by rw [hp]; simp
    have hrd : rd_T39 xs (pre.length : Int) = q := by rw [hp]; exact rd_c pre q r
    have hq := wv_nn q
    have hm : 0 ≤ mn (wv q) 2147483647 ∧ mn (wv q) 2147483647 ≤ wv q ∧ mn (wv q) 2147483647 ≤ 2147483647 := by rw [mn_def]; split <;> omega
    have e0 : mx q.f4 0 = wv q := rfl
    have hm2 : 0 ≤ mn (n + mn (wv q) 2147483647) 2147483647 ∧ mn (n + mn (wv q) 2147483647) 2147483647 ≤ n + wv q ∧ mn (n + mn (wv q) 2147483647) 2147483647 ≤ 2147483647 := by
      rw [mn_def (n + _)]
      split <;> omega
    obtain ⟨v, hv, hb⟩ := wide_l0 a b c d e l xs hx r (pre ++ [q]) (mn (n + mn (wv q) 2147483647) 2147483647) (by rw [hp]; simp) hm2.1 hm2.2.2
    have e1 : wrap64 ((pre.length : Int) + 1) = ((pre ++ [q]).length : Int) := by rw [w64 (by omega) (by omega)]; simp
    refine ⟨v, Ev.succ ?_, ?_⟩
    · simp only [clip_Wide.l0]
      rw [hrd, e0, e1, w64 (x := n + mn (wv q) 2147483647) (by omega) (by omega)]
      exact Ev.ifp (by omega) (Ev.ifp (by omega) (Ev.ifp (by omega) hv))
    · simp only [sumW]
      omega
theorem wide_ev (l : List S39) (a b c d e : Int) (hl : l.length ≤ 300) (h : mayP l a b c) : ∃ v, Ev (fun k => clip_Wide.f k l a b c d e) v ∧ v ≤ sumW (mid l a c) + (if e = 1 then 1 else 0) := by
  have hml := mid_len l a b c h
  have g := h
  obtain ⟨g1, g2, g3, g4⟩ := g
  obtain ⟨v, hv, hb⟩ := wide_l0 a b c d e l (mid l a c) (by omega) (mid l a c) [] 0 rfl (Int.le_refl _) (by decide)
  refine ⟨v, ?_, by omega⟩
  unfold clip_Wide.f
  refine Ev.bindc (may_eq l a b c d e) (Ev.ifp (decide_eq_true h) (Ev.ifp g1 (Ev.ifp g2 (Ev.ifp (by omega) ?_))))
  exact hv
/-- One more doesn't fit. -/
theorem more_l0 (w0 : Int) : ∀ (r pre : List S39) (w : Int), (pre ++ r).length ≤ 300 → 0 ≤ w → w ≤ 9223372036854775807 → fitA r w < r.length →
    ∀ (xs : List S39), xs = pre ++ r.take (fitA r w + 1) → Ev (fun k => parquetryref17_More.l0 k xs w (pre.length : Int)) true
  | [], pre, w, hl, h0, h1, hf => by simp at hf
  | c :: r, pre, w, hl, h0, h1, hf => by
    intro xs hxs
    have hq := wv_nn c
    have e0 : mx c.f4 0 = wv c := rfl
    have hs : xs = pre ++ c :: r.take (fitA (c :: r) w) := by rw [hxs]; simp
    have hlen : xs.length = pre.length + ((r.take (fitA (c :: r) w)).length + 1) := by rw [hs]; simp
    have hrd : rd_T39 xs (pre.length : Int) = c := by rw [hs]; exact rd_c pre c _
    refine Ev.succ ?_
    simp only [parquetryref17_More.l0]
    rw [hrd, e0]
    refine Ev.ifp (by omega) (Ev.ifp (by omega) ?_)
    by_cases h : wv c > w
    · exact Ev.ifp h (Ev.now _)
    · refine Ev.ifn h ?_
      have ef : fitA (c :: r) w = fitA r (w - wv c) + 1 := by simp only [fitA]; rw [if_neg h]
      rw [ef] at hf hs
      have hl2 : (pre ++ c :: r).length = pre.length + (r.length + 1) := by simp
      have ih := more_l0 w0 r (pre ++ [c]) (w - wv c) (by simp at hl ⊢; omega) (by omega) (by omega) (by simpa using hf) xs (by rw [hs]; simp)
      have e1 : wrap64 ((pre.length : Int) + 1) = ((pre ++ [c]).length : Int) := by rw [w64 (by omega) (by omega)]; simp
      rw [e1, w64 (x := w - wv c) (by omega) (by omega)]
      exact ih
/-- What is asked of the two lines. -/
structure Nice (l : List S39) (x y : S29) (w : Int) : Prop where
  h0 : y.f0 = x.f0
  h1 : y.f1 = x.f1
  h3 : y.f3 = x.f3
  lo : y.f0 ≤ y.f2
  hi : y.f2 ≤ x.f2
  may : mayL l y
  fits : sumW (mid l y.f0 y.f2) + (if y.f4 = 1 then 1 else 0) ≤ w
  dots : y.f4 = 0 ∨ y.f4 = 1
  all : y.f4 = 0 → y.f2 = x.f2
  more : y.f4 = 1 → y.f2 < x.f2 → y.f2 = x.f0 + (fitA (mid l x.f0 x.f2) (w - 1) : Nat)
theorem mid_take (l : List S39) (a c : Int) (n : Nat) (ha : 0 ≤ a) (hc : a + n ≤ c) : mid l a (a + n) = (mid l a c).take n := by
  unfold mid
  rw [List.take_drop, List.take_take]
  congr 2
  omega
theorem cut_nice (l : List S39) (x : S29) (w : Int) (h : mayL l x) (hw : 1 ≤ w) (hw2 : w ≤ 1073741824) : Nice l x (cutV l x w) w := by
  have hm := mid_len l _ _ _ h
  have hle := fitV_le l _ _ _ (mx w 0 - 1) h
  have hf := fitA_le (mid l x.f0 x.f2) (w - 1)
  have e : mx w 0 - 1 = w - 1 := by rw [mx_def]; split <;> omega
  have ev : fitV l x.f0 x.f2 (mx w 0 - 1) = x.f0 + (fitA (mid l x.f0 x.f2) (w - 1) : Nat) := by
    rw [e]
    unfold fitV
    rw [if_neg (by omega)]
  have g := h
  obtain ⟨g1, g2, g3, g4⟩ := g
  refine ⟨rfl, rfl, rfl, hle.1, hle.2, ⟨g1, hle.1, ?_, g4⟩, ?_, Or.inr rfl, fun h => absurd (show (1 : Int) = 0 from h) (by decide), fun _ _ => ev⟩
  · show fitV l x.f0 x.f2 (mx w 0 - 1) ≤ x.f1
    omega
  · show sumW (mid l x.f0 (fitV l x.f0 x.f2 (mx w 0 - 1))) + (if (1 : Int) = 1 then 1 else 0) ≤ w
    rw [ev, mid_take l x.f0 x.f2 _ g1 (by omega), if_pos rfl]
    have := fitA_sum (mid l x.f0 x.f2) (w - 1) (by omega)
    omega
theorem clip_nice (l : List S39) (x : S29) (w : Int) (h : mayL l x) (hw : 1 ≤ w) (hw2 : w ≤ 1073741824) : Nice l x (clipV l x w) w := by
  unfold clipV
  by_cases hc : fitV l x.f0 x.f2 (mx w 0) < x.f2
  · rw [if_pos hc]
    exact cut_nice l x w h hw hw2
  · rw [if_neg hc]
    have hm := mid_len l _ _ _ h
    have hf := fitA_le (mid l x.f0 x.f2) w
    have e : mx w 0 = w := by rw [mx_def]; split <;> omega
    have ev : fitV l x.f0 x.f2 (mx w 0) = x.f0 + (fitA (mid l x.f0 x.f2) w : Nat) := by
      rw [e]
      unfold fitV
      rw [if_neg (by omega)]
    have g := h
    obtain ⟨g1, g2, g3, g4⟩ := g
    refine ⟨rfl, rfl, rfl, g2, Int.le_refl _, h, ?_, Or.inl rfl, fun _ => rfl, fun h => absurd (show (0 : Int) = 1 from h) (by decide)⟩
    show sumW (mid l x.f0 x.f2) + (if (0 : Int) = 1 then 1 else 0) ≤ w
    have := fitA_sum (mid l x.f0 x.f2) w (by omega)
    rw [List.take_of_length_le (by omega)] at this
    rw [if_neg (by decide)]
    omega
theorem fits_j3 (l : List S39) (xs : List S29) (i : Int) (x a y : S29) (w : Int) (hl : l.length ≤ 300) (hx : mayL l x) (hw : 1 ≤ w) (hw2 : w ≤ 1073741824) (hy : Nice l x y w) (i2 : Int) (hi : wrap64 (i + 1) = i2)
    (ih : Ev (fun k => parquetrylaw18_ClipFits.l0 k l w xs i2 x.f0 x.f1 x.f2 x.f3 x.f4 a.f0 a.f1 a.f2 a.f3 a.f4) true) :
    Ev (fun k => parquetrylaw18_ClipFits.j3 k l w xs i false x.f0 x.f1 x.f2 x.f3 x.f4 a.f0 a.f1 a.f2 a.f3 a.f4 y.f0 y.f1 y.f2 y.f3 y.f4) true := by
  have hm := mid_len l _ _ _ hx
  obtain ⟨g1, g2, g3, g4⟩ := hx
  have more : y.f4 = 1 → y.f2 < x.f2 → Ev (fun k => parquetryref17_More.f k ((l.take (wrap64 (y.f2 + 1)).toNat).drop y.f0.toNat) (wrap64 (w - 1))) true := fun h1 h2 => by
    have e := hy.more h1 h2
    have hy0 := hy.h0
    have e2 : (l.take (wrap64 (y.f2 + 1)).toNat).drop y.f0.toNat = (mid l x.f0 x.f2).take (fitA (mid l x.f0 x.f2) (w - 1) + 1) := by
      rw [w64 (by omega) (by omega), hy0, ← mid_take l x.f0 x.f2 _ g1 (by omega)]
      show mid l x.f0 (y.f2 + 1) = _
      congr 1
      omega
    rw [e2, w64 (by omega) (by omega)]
    exact more_l0 0 (mid l x.f0 x.f2) [] (w - 1) (by simp; omega) (by omega) (by omega) (by omega) _ rfl
  have lo := hy.lo
  have hi2 := hy.hi
  have h0 := hy.h0
  refine Ev.succ ?_
  simp only [parquetrylaw18_ClipFits.j3]
  rw [hi]
  refine Ev.ifn (by simp) ?_
  rcases hy.dots with hd | hd
  · exact Ev.ifp hd (Ev.ifp (hy.all hd) (Ev.ifn (by omega) ih))
  · refine Ev.ifn (by omega) (Ev.ifp hd ?_)
    by_cases h2 : y.f2 < x.f2
    · have e3 : wrap64 (y.f2 + 1) = y.f2 + 1 := w64 (by omega) (by omega)
      exact Ev.ifp h2 (Ev.ifp (by omega) (Ev.ifp (by omega) (Ev.ifp (by omega) (Ev.bind (more hd h2) (Ev.ifp rfl ih)))))
    · exact Ev.ifn h2 ih
theorem fits_round (l : List S39) (xs : List S29) (i : Int) (x a y : S29) (w : Int) (hl : l.length ≤ 300) (hx : mayL l x) (hw : 1 ≤ w) (hw2 : w ≤ 1073741824) (hy : Nice l x y w) (i2 : Int) (hi : wrap64 (i + 1) = i2)
    (h0 : 0 ≤ i) (h1 : i < (xs.length : Int)) (hr : rd_T29 xs i = y)
    (ih : Ev (fun k => parquetrylaw18_ClipFits.l0 k l w xs i2 x.f0 x.f1 x.f2 x.f3 x.f4 a.f0 a.f1 a.f2 a.f3 a.f4) true) :
    Ev (fun k => parquetrylaw18_ClipFits.l0 k l w xs i x.f0 x.f1 x.f2 x.f3 x.f4 a.f0 a.f1 a.f2 a.f3 a.f4) true := by
  have hj := fits_j3 l xs i x a y w hl hx hw hw2 hy i2 hi ih
  obtain ⟨v, hv, hb⟩ := wide_ev l y.f0 y.f1 y.f2 y.f3 y.f4 hl hy.may
  have hf := hy.fits
  have lo := hy.lo
  have hi2 := hy.hi
  refine Ev.succ ?_
  simp only [parquetrylaw18_ClipFits.l0]
  rw [hr]
  refine Ev.ifp h1 (Ev.ifp h0 (Ev.ifp hy.h0 (Ev.ifp hy.h1 (Ev.ifp hy.h3 (Ev.ifn (by omega) (Ev.ifn (by omega) (Ev.bind hv ?_)))))))
  have e : decide (v > w) = false := decide_eq_false (by omega)
  rw [e]
  exact hj
theorem clip_again (l : List S39) (x : S29) (w : Int) (h : (clipV l x w).f4 ≠ 1) : clipV l (clipV l x w) w = clipV l x w := by
  unfold clipV at h ⊢
  by_cases hc : fitV l x.f0 x.f2 (mx w 0) < x.f2
  · rw [if_pos hc] at h
    exact absurd rfl h
  · rw [if_neg hc]
    simp only
    rw [if_neg hc]
theorem fits_main (l : List S39) (x : S29) (w : Int) (hl : l.length ≤ 300) (hx : mayL l x) (hw : 1 ≤ w) (hw2 : w ≤ 1073741824) :
    Ev (fun k => parquetrylaw18_ClipFits.j0 k l w false x.f0 x.f1 x.f2 x.f3 x.f4) true := by
  have ha := clip_nice l x w hx hw hw2
  have hb := cut_nice l x w hx hw hw2
  have hag : (clipV l x w).f4 = 1 → clipV l x w = cutV l x w := fun h => by
    unfold clipV at h ⊢
    split at h
    · rename_i hc
      rw [if_pos hc]
    · simp at h
  have hag2 := clip_again l x w
  have la : Ev (fun k => parquetrylaw18_ClipFits.l0 k l w [clipV l x w, cutV l x w] 2 x.f0 x.f1 x.f2 x.f3 x.f4 (clipV l x w).f0 (clipV l x w).f1 (clipV l x w).f2 (clipV l x w).f3 (clipV l x w).f4) true := by
    refine Ev.succ ?_
    simp only [parquetrylaw18_ClipFits.l0]
    refine Ev.ifn (by simp) (Ev.bind (clip_ev l _ _ _ _ _ w hl ha.may (by omega)) (Ev.ifp rfl ?_))
    by_cases h1 : (clipV l x w).f4 = 1
    · exact Ev.ifp h1 (Ev.bind awake_ev (Ev.now _))
    · refine Ev.ifn h1 (Ev.ifp ?_ (Ev.bind awake_ev (Ev.now _)))
      have e := hag2 h1
      have e2 : (⟨(clipV l x w).f0, (clipV l x w).f1, (clipV l x w).f2, (clipV l x w).f3, (clipV l x w).f4⟩ : S29) = clipV l x w := rfl
      rw [e2, e]
      simp [tupE]
  have l1 := fits_round l [clipV l x w, cutV l x w] 1 x (clipV l x w) (cutV l x w) w hl hx hw hw2 hb 2 (w64 (x := 1 + 1) (by decide) (by decide)) (by decide) (by simp) rfl la
  have l0 := fits_round l [clipV l x w, cutV l x w] 0 x (clipV l x w) (clipV l x w) w hl hx hw hw2 ha 1 (w64 (x := 0 + 1) (by decide) (by decide)) (by decide) (by simp) rfl l1
  have j1 : Ev (fun k => parquetrylaw18_ClipFits.j1 k l w false x.f0 x.f1 x.f2 x.f3 x.f4 (clipV l x w).f0 (clipV l x w).f1 (clipV l x w).f2 (clipV l x w).f3 (clipV l x w).f4 (cutV l x w).f0 (cutV l x w).f1 (cutV l x w).f2 (cutV l x w).f3 (cutV l x w).f4) true := by
    refine Ev.succ ?_
    simp only [parquetrylaw18_ClipFits.j1]
    exact Ev.ifn (by simp) l0
  refine Ev.succ ?_
  simp only [parquetrylaw18_ClipFits.j0]
  refine Ev.ifn (by simp) (Ev.bind (clip_ev l _ _ _ _ _ w hl hx (by omega)) (Ev.bind (cut_ev l _ _ _ _ _ w hl hx (by omega)) (Ev.ifp rfl (Ev.ifp rfl (Ev.ifp rfl ?_)))))
  by_cases h1 : (clipV l x w).f4 = 1
  · refine Ev.ifp h1 ?_
    have e := hag h1
    have e3 : (!((tupE (clipV l x w)).1 == (tupE (cutV l x w)).1) || (!((tupE (clipV l x w)).2.1 == (tupE (cutV l x w)).2.1) || (!((tupE (clipV l x w)).2.2.1 == (tupE (cutV l x w)).2.2.1) || (!((tupE (clipV l x w)).2.2.2.1 == (tupE (cutV l x w)).2.2.2.1) || (!((tupE (clipV l x w)).2.2.2.2.1 == (tupE (cutV l x w)).2.2.2.2.1)))))) = false := by
      rw [e]
      simp
    refine Ev.congr (fun k => ?_) j1
    show parquetrylaw18_ClipFits.j1 k l w (!((tupE (clipV l x w)).1 == (tupE (cutV l x w)).1) || (!((tupE (clipV l x w)).2.1 == (tupE (cutV l x w)).2.1) || (!((tupE (clipV l x w)).2.2.1 == (tupE (cutV l x w)).2.2.1) || (!((tupE (clipV l x w)).2.2.2.1 == (tupE (cutV l x w)).2.2.2.1) || (!((tupE (clipV l x w)).2.2.2.2.1 == (tupE (cutV l x w)).2.2.2.2.1)))))) x.f0 x.f1 x.f2 x.f3 x.f4 (clipV l x w).f0 (clipV l x w).f1 (clipV l x w).f2 (clipV l x w).f3 (clipV l x w).f4 (cutV l x w).f0 (cutV l x w).f1 (cutV l x w).f2 (cutV l x w).f3 (cutV l x w).f4 = _
    rw [e3]
  · exact Ev.ifn h1 j1
theorem ClipFits : parquetrylaw18_ClipFits.Pure := by
  intro l a b c d e w h1 h2 h3 w0 w1 w2 w3 w4 w5
  have aw : Ev (fun k => parquetrylaw18_ClipFits.j0 k l w true a b c d e) true := by
    refine Ev.succ ?_
    simp only [parquetrylaw18_ClipFits.j0]
    exact Ev.ifp trivial (Ev.bind awake_ev (Ev.now _))
  refine Ev.ex ?_
  unfold parquetrylaw18_ClipFits.f
  by_cases g1 : (l.length : Int) > 300
  · exact Ev.ifp g1 aw
  by_cases g2 : w < 1
  · exact Ev.ifn g1 (Ev.ifp g2 aw)
  by_cases g3 : w > 1073741824
  · exact Ev.ifn g1 (Ev.ifn g2 (Ev.ifp g3 aw))
  refine Ev.ifn g1 (Ev.ifn g2 (Ev.ifn g3 ?_))
  have em : clip_May.f l a b c d e = some (decide (mayP l a b c)) := by
    unfold clip_May.f
    rw [may_eq]
    rfl
  refine Ev.bindc em ?_
  by_cases hm : mayP l a b c
  · have key := fits_main l ⟨a, b, c, d, e⟩ w (by omega) hm (by omega) (by omega)
    rw [decide_eq_true hm]
    exact key
  · rw [decide_eq_false hm]
    exact aw
end Go.Proofs.Ytieffcjbbhigbaa.Pure
