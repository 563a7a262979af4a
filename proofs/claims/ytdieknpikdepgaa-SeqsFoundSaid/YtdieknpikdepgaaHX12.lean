/- Chapter 11: the document's levels are those that level.Explicit tells, in plain Lean. Conditions: at most 900 classes; the level 0 or 1. -/
import Derived.Test.YtdieknpikdepgaaPC12x11
import Derived.Test.YtdieknpikdepgaaHL12
import Derived.Test.YtdieknpikdepgaaHQ12
namespace Go.Proofs.Ytdieknpikdepgaa.PC12
open Go.RowKit Go.Proofs.YtdieknpikdepgaaW.PrintWords Go.Proofs.YtdieknpikdepgaaW.PrintLast Go.Proofs.YtdieknpikdepgaaW.PrintMore Go.Proofs.YtdieknpikdepgaaH
set_option linter.unusedVariables false
set_option linter.unusedSimpArgs false
open level_Explicit

abbrev RE := S71
def encE (e : E) : RE := ⟨e.f0, e.f1, if e.f2 = true then 1 else 0⟩
/-- What is open, as the document has it. -/
def enc (st : List E) : List RE := (st.map encE).reverse
theorem enc_cons (x : E) (st : List E) : enc (x :: st) = enc st ++ [encE x] := by simp [enc]
theorem enc_len (st : List E) : (enc st).length = st.length := by simp [enc]
def encS (s : S) : List RE × Int × Int × Int := (enc s.st, (s.p : Int), (s.q : Int), (s.z : Int))
theorem top_eq (x : E) (st : List E) (a b c : Int) (hs : st.length < 1000000) : parquetryref11_State_Top.f (enc (x :: st)) a b c = some (x.f0, x.f1, if x.f2 = true then 1 else 0) := by
  unfold parquetryref11_State_Top.f
  have hl : (enc (x :: st)).length = st.length + 1 := by rw [enc_len]; rfl
  have hr : rd_T71 (enc (x :: st)) (st.length : Int) = encE x := by
    unfold rd_T71
    rw [enc_cons, Int.toNat_natCast, List.getD_eq_getElem?_getD, List.getElem?_append_right (by rw [enc_len]; exact Nat.le_refl _), enc_len, Nat.sub_self]
    rfl
  rw [hl, show wrap64 (((st.length + 1 : Nat) : Int) - 1) = (st.length : Int) from by rw [w64 (by omega) (by omega)]; omega, if_pos (by omega), if_pos (by omega), hr]
  rfl
theorem with_eq (st : List E) (a b c e0 e1 e2 : Int) (hs : st.length ≤ 1000000) : parquetryref11_State_With.f (enc st) a b c e0 e1 e2 = some (enc st ++ [⟨e0, e1, e2⟩], a, b, c) := by
  unfold parquetryref11_State_With.f
  simp only [Option.bind_some, List.nil_append, List.length_nil, Nat.zero_add, List.length_cons, enc_len]
  rw [if_pos (by omega), if_pos (by omega)]
theorem without_eq (x : E) (st : List E) (a b c : Int) (hs : st.length < 1000000) : parquetryref11_State_Without.f (enc (x :: st)) a b c = some (enc st, a, b, c) := by
  unfold parquetryref11_State_Without.f
  have hl : (enc (x :: st)).length = st.length + 1 := by rw [enc_len]; rfl
  have ht : (enc (x :: st)).take st.length = enc st := by
    rw [enc_cons, List.take_append_of_le_length (by rw [enc_len]; exact Nat.le_refl _), ← enc_len st, List.take_length]
  simp only [Option.bind_some, List.nil_append, List.length_nil, Nat.zero_add]
  rw [hl, show wrap64 (((st.length + 1 : Nat) : Int) - 1) = (st.length : Int) from by rw [w64 (by omega) (by omega)]; omega, if_pos (by omega), if_pos (by omega), Int.toNat_natCast, ht]
  rw [if_pos (by rw [enc_len]; omega)]
theorem next_l0 (odd : Int) (ho : odd = 0 ∨ odd = 1) (lv : Int) (h0 : 0 ≤ lv) (h1 : lv ≤ 125) : Ev (fun k => parquetryref11_State_Next.l0 k odd (lv + 1)) (nx lv odd) := by
  have hb : bits .and .i64 (lv + 1) 1 = (lv + 1) % 2 := band (lv + 1) 1 1 (by decide) (by decide)
  have ht : ∀ x : Int, 0 ≤ x → Int.tmod x 2 = x % 2 := fun x hx => Int.tmod_eq_emod_of_nonneg hx
  unfold nx
  rw [hb]
  refine Ev.succ ?_
  simp only [parquetryref11_State_Next.l0]
  rw [ht _ (by omega)]
  by_cases h : (lv + 1) % 2 = odd
  · rw [if_pos h]
    exact Ev.ifp h (Ev.now _)
  · rw [if_neg h]
    refine Ev.ifn h (Ev.succ ?_)
    simp only [parquetryref11_State_Next.l0]
    rw [w64 (by omega) (by omega), ht _ (by omega)]
    exact Ev.ifp (by omega) (Ev.now _)
theorem next_ev (x : E) (st : List E) (a b c odd : Int) (hs : st.length < 1000000) (h0 : 0 ≤ x.f0) (h1 : x.f0 ≤ 125) (ho : odd = 0 ∨ odd = 1) : Ev (fun k => parquetryref11_State_Next.f k (enc (x :: st)) a b c odd) (nx x.f0 odd) := by
  unfold parquetryref11_State_Next.f
  refine Ev.bindc (top_eq x st a b c hs) ?_
  simp only
  rw [w64 (by omega) (by omega)]
  exact next_l0 odd ho x.f0 h0 h1
theorem fits_ev (x : E) (st : List E) (p q : Nat) (z odd : Int) (hs : st.length < 1000000) (hp : p < 1000000) (hq : q < 1000000) (h0 : 0 ≤ x.f0) (h1 : x.f0 ≤ 125) (ho : odd = 0 ∨ odd = 1) : Ev (fun k => parquetryref11_State_Fits.f k (enc (x :: st)) (p : Int) (q : Int) z odd) (pushOk p q (nx x.f0 odd)) := by
  unfold parquetryref11_State_Fits.f
  refine Ev.bind (next_ev x st _ _ _ odd hs h0 h1 ho) ?_
  unfold pushOk
  by_cases h : nx x.f0 odd ≤ 125
  · refine Ev.ifp h (Ev.val (Ev.now _) ?_)
    rw [w64 (by omega) (by omega), decide_eq_false (show ¬ nx x.f0 odd > 125 by omega), Bool.eq_iff_iff]
    simp only [beq_iff_eq, Bool.false_or, Bool.not_eq_true', Bool.or_eq_false_iff, decide_eq_false_iff_not]
    omega
  · refine Ev.ifn h (Ev.val (Ev.now _) ?_)
    rw [decide_eq_true (show nx x.f0 odd > 125 by omega)]
    rfl
theorem shape {b : Int} {i : Nat} {s : S} (h : Good b i s) (hb : 0 ≤ b) (hi : i < 1000) : ∃ x st, s.st = x :: st ∧ level_Explicit.top s = x ∧ st.length < 1000000 ∧ 0 ≤ x.f0 ∧ x.f0 ≤ 125 ∧ s.p < 1000000 ∧ s.q < 1000000 ∧ s.z < 1000000 ∧ (x.f1 = -1 ∨ x.f1 = 0 ∨ x.f1 = 1) := by
  obtain ⟨t, ht⟩ := h.bot
  have h4 := h.len
  have h5 := h.p
  have h6 := h.q
  have h7 := h.z
  have h8 : s.st.countP (fun e => e.f2) ≤ s.st.length := List.countP_le_length
  have ha := h.all _ h.top
  cases hs : s.st with
  | nil => rw [hs] at ht; cases t <;> simp at ht
  | cons x st =>
    have htop : level_Explicit.top s = x := by unfold level_Explicit.top; rw [hs]; rfl
    rw [htop] at ha
    rw [← h7] at h8
    rw [hs] at h4 h8
    simp only [List.length_cons] at h4 h8
    exact ⟨x, st, rfl, htop, by omega, by omega, ha.2.1, by omega, by omega, by omega, ha.2.2⟩
theorem emb_ev {b : Int} {i : Nat} {s : S} (h : Good b i s) (hb : 0 ≤ b) (hi : i < 1000) (odd over : Int) (ho : odd = 0 ∨ odd = 1) : Ev (fun k => parquetryref11_embed.f k (enc s.st) (s.p : Int) (s.q : Int) (s.z : Int) odd over) (encS (emb s odd over)) := by
  obtain ⟨x, st, h1, h2, h3, h4, h5, h6, h7, h8, _⟩ := shape h hb hi
  unfold parquetryref11_embed.f emb encS
  rw [h2, h1]
  refine Ev.bind (fits_ev x st _ _ _ odd h3 h6 h7 h4 h5 ho) ?_
  by_cases hk : pushOk s.p s.q (nx x.f0 odd) = true
  · refine Ev.ifp hk (Ev.bind (next_ev x st _ _ _ odd h3 h4 h5 ho) (Ev.bindc (with_eq (x :: st) _ _ _ _ _ _ (by simp only [List.length_cons]; omega)) (Ev.val (Ev.now _) ?_)))
    simp only [if_pos hk]
    rw [enc_cons _ (x :: st)]
    rfl
  · refine Ev.ifn hk ?_
    simp only [if_neg hk]
    by_cases hp : s.p = 0
    · refine Ev.ifp (by omega) (Ev.val (Ev.now _) ?_)
      rw [w64 (by omega) (by omega), if_pos hp]
      rfl
    · refine Ev.ifn (by omega) (Ev.val (Ev.now _) ?_)
      rw [if_neg hp]
theorem iso_ev {b : Int} {i : Nat} {s : S} (h : Good b i s) (hb : 0 ≤ b) (hi : i < 1000) (odd : Int) (ho : odd = 0 ∨ odd = 1) : Ev (fun k => parquetryref11_begin.f k (enc s.st) (s.p : Int) (s.q : Int) (s.z : Int) odd) (encS (iso s odd)) := by
  obtain ⟨x, st, h1, h2, h3, h4, h5, h6, h7, h8, _⟩ := shape h hb hi
  unfold parquetryref11_begin.f iso encS
  rw [h2, h1]
  refine Ev.bind (fits_ev x st _ _ _ odd h3 h6 h7 h4 h5 ho) ?_
  by_cases hk : pushOk s.p s.q (nx x.f0 odd) = true
  · refine Ev.ifp hk (Ev.bind (next_ev x st _ _ _ odd h3 h4 h5 ho) (Ev.bindc (with_eq (x :: st) _ _ _ _ _ _ (by simp only [List.length_cons]; omega)) (Ev.val (Ev.now _) ?_)))
    simp only [if_pos hk]
    rw [enc_cons _ (x :: st), w64 (by omega) (by omega)]
    rfl
  · refine Ev.ifn hk (Ev.val (Ev.now _) ?_)
    simp only [if_neg hk]
    rw [w64 (by omega) (by omega)]
    rfl
theorem pdf_eq {b : Int} {i : Nat} {s : S} (h : Good b i s) (hb : 0 ≤ b) (hi : i < 1000) : parquetryref11_pop.f (enc s.st) (s.p : Int) (s.q : Int) (s.z : Int) = some (encS (pdf s)) := by
  obtain ⟨x, st, h1, h2, h3, h4, h5, h6, h7, h8, _⟩ := shape h hb hi
  unfold parquetryref11_pop.f pdf encS
  by_cases c1 : 0 < s.p
  · rw [if_pos (by omega), if_pos c1, if_pos (.inl c1)]
  rw [if_neg (by omega), if_neg c1]
  by_cases c2 : 0 < s.q
  · rw [if_pos (by omega), if_pos (.inr (.inl c2)), w64 (by omega) (by omega)]
    congr 3
    simp only [Prod.mk.injEq, true_and, and_true]
    omega
  rw [if_neg (by omega), h1, top_eq x st _ _ _ h3]
  simp only [Option.bind_some]
  rw [h2]
  have hq : s.q - 1 = s.q := by omega
  rw [hq]
  by_cases c3 : x.f2 = true
  · simp only [c3, if_true]
    rw [if_pos (by simp)]
  · have c3' : x.f2 = false := by simpa using c3
    simp only [c3', Bool.false_eq_true, if_false]
    rw [if_neg (by decide), enc_len]
    by_cases c4 : st = []
    · rw [c4, if_pos (show ((([x] : List E).length : Nat) : Int) = 1 from rfl), if_pos (by simp)]
    · have : 0 < st.length := List.length_pos_iff.2 c4
      rw [if_neg (by simp only [List.length_cons]; omega), if_neg (by simp only [List.tail_cons]; simp [c1, c2, c4]), without_eq x st _ _ _ h3]
      rfl
theorem end_l0' : ∀ (st : List E) (a b c : Int), st.length ≤ 1000000 → 0 < st.countP (fun e => e.f2) → Ev (fun k => parquetryref11_end.l0 k (enc st) a b c) (enc (drp st).tail, a, b, c)
  | [], a, b, c, _, h => by simp at h
  | x :: st, a, b, c, hl, h => by
    have hl' : st.length < 1000000 := by simp only [List.length_cons] at hl; omega
    refine Ev.succ ?_
    simp only [parquetryref11_end.l0]
    refine Ev.bindc (top_eq x st a b c hl') ?_
    rw [drp_cons]
    cases hx : x.f2
    · rw [if_neg (by decide), if_neg (by decide)]
      refine Ev.ifp rfl (Ev.bindc (without_eq x st a b c hl') ?_)
      exact end_l0' st a b c (Nat.le_of_lt hl') (by rw [List.countP_cons, hx] at h; simpa using h)
    · rw [if_pos rfl, if_pos rfl]
      exact Ev.ifn (show ¬ (1 : Int) = 0 by decide) (Ev.bindc (without_eq x st a b c hl') (Ev.now _))
theorem pdi_ev {b : Int} {i : Nat} {s : S} (h : Good b i s) (hb : 0 ≤ b) (hi : i < 1000) : Ev (fun k => parquetryref11_end.f k (enc s.st) (s.p : Int) (s.q : Int) (s.z : Int)) (encS (pdi s)) := by
  obtain ⟨x, st, h1, h2, h3, h4, h5, h6, h7, h8, _⟩ := shape h hb hi
  unfold parquetryref11_end.f pdi encS
  by_cases c1 : 0 < s.p
  · refine Ev.ifp (by omega) (Ev.val (Ev.now _) ?_)
    rw [w64 (by omega) (by omega), if_neg (by omega), if_neg (by omega), if_neg (by omega)]
    simp only [Prod.mk.injEq, true_and, and_true]
    omega
  refine Ev.ifn (by omega) ?_
  have hp0 : s.p - 1 = s.p := by omega
  by_cases c2 : s.z = 0
  · refine Ev.ifp (by omega) (Ev.val (Ev.now _) ?_)
    rw [if_neg (by omega), if_pos (by omega), if_neg (by omega), hp0]
    simp only [Prod.mk.injEq, true_and, and_true]
    omega
  · refine Ev.ifn (by omega) (Ev.val (end_l0' s.st _ _ _ (by rw [h1]; simp only [List.length_cons]; omega) (by have := h.z; omega)) ?_)
    rw [w64 (by omega) (by omega), if_pos (by omega), if_pos (by omega), if_pos (by omega), hp0]
    simp only [Prod.mk.injEq, true_and, and_true]
    omega
theorem lev_01 : ∀ (r : List Int) (d : Nat), (lev r d).1 = 0 ∨ (lev r d).1 = 1
  | [], d => .inl (by cases d <;> rfl)
  | c :: r, 0 => by
    have := lev_01 r 1
    have h2 := lev_01 r 0
    unfold lev
    repeat' split
    all_goals first | exact this | exact h2 | exact .inl rfl | exact .inr rfl
  | c :: r, d + 1 => by
    rw [lev_s]
    split
    · exact lev_01 r d
    split
    · exact lev_01 r (d + 2)
    · exact lev_01 r (d + 1)
theorem fsi_01 (l : List Int) (i : Nat) : fsi l i = 0 ∨ fsi l i = 1 := by
  unfold fsi
  exact lev_01 _ _
theorem odd_ev (l : List Int) (hl : l.length < 900) (i : Nat) (hi : i < l.length) (h : ¬ at' l i = 20) (h' : ¬ at' l i = 19) : Ev (fun k => parquetryref11_odd.f k l (i : Int)) (fsi l i) := by
  unfold parquetryref11_odd.f
  have h4 := endOf_gt l i hi
  have h5 := endOf_le l i
  have e : wrap64 ((i : Int) + 1) = ((i + 1 : Nat) : Int) := by rw [w64 (by omega) (by omega)]; omega
  rw [rd_at, e, Int.toNat_natCast]
  refine Ev.ifp (by omega) (Ev.ifp (by omega) (Ev.ifn h (Ev.ifn h' (Ev.bind (end_ev l (by omega) i hi) ?_))))
  rw [Int.toNat_natCast]
  exact Ev.ifp (by omega) (Ev.ifp (by omega) (Ev.ifp (by omega) (Ev.bind (refLevel_ev _ (by rw [List.length_drop, List.length_take]; omega)) (Ev.now _))))
theorem step_ev (l : List Int) (hl : l.length < 900) (i : Nat) (hi : i < l.length) {b : Int} {s : S} (h : Good b i s) (hb : 0 ≤ b) : Ev (fun k => parquetryref11_Step.f k (enc s.st) (s.p : Int) (s.q : Int) (s.z : Int) l (i : Int)) (encS (s2v l i (s1 s (at' l i)))) := by
  unfold parquetryref11_Step.f
  rw [rd_at]
  refine Ev.ifp (by omega) (Ev.ifp (by omega) ?_)
  have em : ∀ o v, (o = 0 ∨ o = 1) → s2v l i (s1 s (at' l i)) = emb s o v → Ev (fun k => (parquetryref11_embed.f k (enc s.st) (s.p : Int) (s.q : Int) (s.z : Int) o v).bind fun bt => some (bt.1, bt.2.1, bt.2.2.1, bt.2.2.2)) (encS (s2v l i (s1 s (at' l i)))) := fun o v ho he => by
    rw [he]
    exact Ev.bind (emb_ev h hb (by omega) o v ho) (Ev.now _)
  by_cases c16 : at' l i = 16
  · refine Ev.ifp c16 (em 1 (-1) (.inr rfl) ?_)
    rw [s2v_not (by rw [c16]; decide), c16]
    rfl
  refine Ev.ifn c16 ?_
  by_cases c14 : at' l i = 14
  · refine Ev.ifp c14 (em 0 (-1) (.inl rfl) ?_)
    rw [s2v_not (by rw [c14]; decide), c14]
    rfl
  refine Ev.ifn c14 ?_
  by_cases c17 : at' l i = 17
  · refine Ev.ifp c17 (em 1 1 (.inr rfl) ?_)
    rw [s2v_not (by rw [c17]; decide), c17]
    rfl
  refine Ev.ifn c17 ?_
  by_cases c15 : at' l i = 15
  · refine Ev.ifp c15 (em 0 0 (.inl rfl) ?_)
    rw [s2v_not (by rw [c15]; decide), c15]
    rfl
  refine Ev.ifn c15 ?_
  have begins : ∀ o, (o = 0 ∨ o = 1) → s2v l i (s1 s (at' l i)) = iso s o → Ev (fun k => parquetryref11_odd.f k l (i : Int)) o → Ev (fun k => parquetryref11_Step.j0 k l (i : Int) (at' l i) true (enc s.st) (s.p : Int) (s.q : Int) (s.z : Int)) (encS (s2v l i (s1 s (at' l i)))) := fun o ho he hod => by
    rw [he]
    refine Ev.succ ?_
    simp only [parquetryref11_Step.j0]
    exact Ev.ifp trivial (Ev.bind hod (Ev.bind (iso_ev h hb (by omega) o ho) (Ev.now _)))
  by_cases c20 : at' l i = 20
  · refine Ev.ifp c20 ?_
    rw [beq_iff_eq.2 c20]
    refine begins 1 (.inr rfl) ?_ ?_
    · rw [s1_ini (by rw [c20]; decide)]
      unfold s2v
      rw [if_pos c20]
    · unfold parquetryref11_odd.f
      rw [rd_at]
      exact Ev.ifp (by omega) (Ev.ifp (by omega) (Ev.ifp c20 (Ev.now _)))
  refine Ev.ifn c20 ?_
  by_cases c19 : at' l i = 19
  · refine Ev.ifp c19 ?_
    rw [beq_iff_eq.2 c19]
    refine begins 0 (.inl rfl) ?_ ?_
    · rw [s1_ini (by rw [c19]; decide)]
      unfold s2v
      rw [if_neg c20, if_pos c19]
    · unfold parquetryref11_odd.f
      rw [rd_at]
      exact Ev.ifp (by omega) (Ev.ifp (by omega) (Ev.ifn c20 (Ev.ifp c19 (Ev.now _))))
  refine Ev.ifn c19 ?_
  by_cases c21 : at' l i = 21
  · rw [beq_iff_eq.2 c21]
    refine begins (fsi l i) (fsi_01 l i) ?_ (odd_ev l hl i hi c20 c19)
    rw [s1_ini (by rw [c21]; decide)]
    unfold s2v
    rw [if_neg c20, if_neg c19, if_pos c21]
  rw [beq_eq_false_iff_ne.2 c21, s2v_not (by simp [ini, c19, c20, c21])]
  refine Ev.succ ?_
  simp only [parquetryref11_Step.j0]
  refine Ev.ifn (by decide) ?_
  unfold s1
  rw [if_neg c16, if_neg c14, if_neg c17, if_neg c15]
  by_cases c22 : at' l i = 22
  · rw [c22, if_neg (by decide), if_pos rfl]
    exact Ev.ifp rfl (Ev.bind (pdi_ev h hb (by omega)) (Ev.now _))
  refine Ev.ifn c22 ?_
  by_cases c18 : at' l i = 18
  · rw [if_pos c18, if_pos c18]
    exact Ev.bindc (pdf_eq h hb (by omega)) (Ev.now _)
  · rw [if_neg c18, if_neg c18, if_neg c22]
    exact Ev.now _
theorem as1_gone (s : S) (c : Int) (h : gone c = true) : as1 s c = c := by
  have c10 : ¬ c = 10 := fun e => by rw [e] at h; revert h; decide
  simp only [gone, Bool.or_eq_true, decide_eq_true_eq] at h
  unfold as1
  rw [if_neg c10]
  repeat' split
  all_goals first | rfl | omega
theorem refRemoved_eq (c : Int) : parquetryref11_Removed.f c = some (gone c) := by
  have h := removed_eq c
  rw [← h]
  unfold level_Removed.f parquetryref11_Removed.f
  by_cases h1 : c = 16
  · rw [if_pos h1, if_pos h1]
  rw [if_neg h1, if_neg h1]
  by_cases h2 : c = 14
  · rw [if_pos h2, if_pos h2]
  rw [if_neg h2, if_neg h2]
  by_cases h3 : c = 17
  · rw [if_pos h3, if_pos h3]
  rw [if_neg h3, if_neg h3]
  by_cases h4 : c = 15
  · rw [if_pos h4, if_pos h4]
  rw [if_neg h4, if_neg h4]
  by_cases h5 : c = 18
  · rw [if_pos h5, if_pos h5]
  rw [if_neg h5, if_neg h5]
  by_cases h6 : c = 9
  · rw [if_pos h6, beq_iff_eq.2 h6]
  · rw [if_neg h6, beq_eq_false_iff_ne.2 h6]
theorem rex_l0 (l : List Int) (hl : l.length < 900) (b : Int) (hb0 : 0 ≤ b) (hb : b ≤ 125) : ∀ n i, i + n = l.length → Ev (fun k => parquetryref11_Explicit.l0 k l b ((List.range i).map (lv l b)) ((List.range i).map (tv l b)) (i : Int) (enc (sat l b i).st) ((sat l b i).p : Int) ((sat l b i).q : Int) ((sat l b i).z : Int)) ((List.range l.length).map (lv l b), (List.range l.length).map (tv l b))
  | 0, i, h => by
    obtain rfl : i = l.length := by omega
    refine Ev.succ ?_
    simp only [parquetryref11_Explicit.l0]
    exact Ev.ifn (by omega) (Ev.now _)
  | n + 1, i, h => by
    have ih := rex_l0 l hl b hb0 hb n (i + 1) (by omega)
    have hi : i < l.length := by omega
    have hi1 : i < 1000 := by omega
    have hi3 : i + 1 < 1000 := by omega
    have hi2 : i < 17592186044416 := by omega
    have hz1 : (i : Int) < (l.length : Int) := by omega
    have hz0 : (0 : Int) ≤ (i : Int) := by omega
    have e1 : wrap64 ((i : Int) + 1) = ((i + 1 : Nat) : Int) := by rw [w64 (by omega) (by omega)]; omega
    have g0 := Good.sat l hb i
    have g1 := Good.sat l hb (i + 1)
    obtain ⟨x, st, h1, h2, h3, h4, h5, h6, h7, h8, h9⟩ := shape g0 hb0 hi1
    obtain ⟨y, su, k1, k2, k3, k4, k5, k6, k7, k8, k9⟩ := shape g1 hb0 hi3
    have hst := step_ev l hl i hi g0 hb0
    rw [show s2v l i (s1 (sat l b i) (at' l i)) = sat l b (i + 1) from rfl] at hst
    have hr : ∀ f : Nat → Int, (List.range i).map f ++ [f i] = (List.range (i + 1)).map f := fun f => by rw [List.range_succ, List.map_append]; rfl
    have hlen : ∀ f : Nat → Int, ((List.range i).map f).length = i := fun f => by simp
    have j3 : ∀ a o e, lv l b i = (if at' l i = 10 then b else a) → tv l b i = (if at' l i = 10 then at' l i else if 0 ≤ o then o else at' l i) → Ev (fun k => parquetryref11_Explicit.j3 k l b ((List.range i).map (lv l b)) ((List.range i).map (tv l b)) (i : Int) (at' l i) (enc (sat l b (i + 1)).st) ((sat l b (i + 1)).p : Int) ((sat l b (i + 1)).q : Int) ((sat l b (i + 1)).z : Int) a o e) ((List.range l.length).map (lv l b), (List.range l.length).map (tv l b)) := fun a o e hl1 ht1 => by
      refine Ev.succ ?_
      simp only [parquetryref11_Explicit.j3]
      rw [hlen, hlen, e1]
      by_cases c10 : at' l i = 10
      · rw [if_pos c10] at hl1 ht1
        refine Ev.ifp c10 (Ev.ifp hi2 (Ev.bindc rfl (Ev.ifn (by decide) (Ev.ifp hi2 ?_))))
        have q1 := hr (lv l b)
        have q2 := hr (tv l b)
        rw [hl1] at q1
        rw [ht1] at q2
        rw [q1, q2]
        exact ih
      · rw [if_neg c10] at hl1 ht1
        refine Ev.ifn c10 (Ev.ifp hi2 (Ev.bindc rfl ?_))
        by_cases co : 0 ≤ o
        · rw [if_pos co] at ht1
          refine Ev.ifp co (Ev.ifp hi2 ?_)
          have q1 := hr (lv l b)
          have q2 := hr (tv l b)
          rw [hl1] at q1
          rw [ht1] at q2
          rw [q1, q2]
          exact ih
        · rw [if_neg co] at ht1
          refine Ev.ifn co (Ev.ifp hi2 ?_)
          have q1 := hr (lv l b)
          have q2 := hr (tv l b)
          rw [hl1] at q1
          rw [ht1] at q2
          rw [q1, q2]
          exact ih
    have j2 : ∀ a o e, (gone (at' l i) = false → lv l b i = (if at' l i = 10 then b else a) ∧ tv l b i = (if at' l i = 10 then at' l i else if 0 ≤ o then o else at' l i)) → Ev (fun k => parquetryref11_Explicit.j2 k l b ((List.range i).map (lv l b)) ((List.range i).map (tv l b)) (i : Int) (at' l i) (enc (sat l b (i + 1)).st) ((sat l b (i + 1)).p : Int) ((sat l b (i + 1)).q : Int) ((sat l b (i + 1)).z : Int) a o e) ((List.range l.length).map (lv l b), (List.range l.length).map (tv l b)) := fun a o e hg => by
      refine Ev.succ ?_
      simp only [parquetryref11_Explicit.j2]
      refine Ev.bindc (refRemoved_eq _) ?_
      cases hgo : gone (at' l i)
      · obtain ⟨hl1, ht1⟩ := hg hgo
        exact Ev.ifn (by decide) (j3 a o e hl1 ht1)
      · have c10 : ¬ at' l i = 10 := fun c => by rw [c] at hgo; revert hgo; decide
        refine Ev.ifp rfl (j3 (-1) (-1) 0 ?_ ?_)
        · rw [if_neg c10]
          unfold lv
          rw [if_pos hgo]
        · rw [if_neg c10, if_neg (by decide)]
          exact as1_gone _ _ hgo
    have sees : ∀ (s : S) (x : E), level_Explicit.top s = x → (x.f1 = -1 ∨ x.f1 = 0 ∨ x.f1 = 1) → see s (at' l i) = if 0 ≤ x.f1 then x.f1 else at' l i := fun s x hx h => by
      unfold see
      rw [hx]
      rcases h with h | h | h <;> rw [h] <;> rfl
    refine Ev.succ ?_
    simp only [parquetryref11_Explicit.l0]
    rw [rd_at]
    refine Ev.ifp hz1 (Ev.ifp hz0 (Ev.bind hst ?_))
    rw [h1]
    refine Ev.bindc (top_eq x st _ _ _ h3) ?_
    have ng : ∀ (hgo : gone (at' l i) = false), ¬ at' l i = 16 ∧ ¬ at' l i = 14 ∧ ¬ at' l i = 17 ∧ ¬ at' l i = 15 ∧ ¬ at' l i = 18 ∧ ¬ at' l i = 9 := fun hgo => by
      simp only [gone, Bool.or_eq_false_iff, decide_eq_false_iff_not] at hgo
      exact ⟨hgo.1, hgo.2.1, hgo.2.2.1, hgo.2.2.2.1, hgo.2.2.2.2.1, hgo.2.2.2.2.2⟩
    by_cases c22 : at' l i = 22
    · have ne : ∀ c : Int, c ≠ 22 → ¬ at' l i = c := fun c hc e => hc (e.symm.trans c22)
      have n10 := ne 10 (by decide)
      have n16 := ne 16 (by decide)
      have n14 := ne 14 (by decide)
      have n17 := ne 17 (by decide)
      have n15 := ne 15 (by decide)
      have n18 := ne 18 (by decide)
      have hsat : sat l b (i + 1) = pdi (sat l b i) := by
        show s2v l i (s1 (sat l b i) (at' l i)) = _
        rw [s2v_not (by rw [c22]; decide), c22]
        rfl
      refine Ev.ifp c22 ?_
      simp only [encS]
      rw [k1]
      refine Ev.bindc (top_eq y su _ _ _ k3) ?_
      rw [← k1]
      refine j2 _ _ _ (fun hgo => ?_)
      rw [hsat] at k2
      rw [if_neg n10, if_neg n10]
      constructor
      · unfold lv at1
        rw [hgo, if_neg (by decide), if_neg n10, if_pos c22, k2]
      · unfold tv as1
        rw [if_neg n10, if_neg n16, if_neg n14, if_neg n17, if_neg n15, if_neg n18, if_pos c22]
        exact sees _ y k2 k9
    · refine Ev.ifn c22 ?_
      simp only [encS]
      refine j2 _ _ _ (fun hgo => ?_)
      obtain ⟨n1, n2, n3, n4, n5, n6⟩ := ng hgo
      constructor
      · unfold lv at1
        rw [hgo, if_neg (by decide), if_neg c22, h2]
      · unfold tv as1
        by_cases c10 : at' l i = 10
        · rw [if_pos c10, if_pos c10]
        · rw [if_neg c10, if_neg c10, if_neg n1, if_neg n2, if_neg n3, if_neg n4, if_neg n5, if_neg c22, if_neg n6]
          exact sees _ x h2 h9
theorem refExplicit_ev (l : List Int) (hl : l.length < 900) (b : Int) (hb : b = 0 ∨ b = 1) : Ev (fun k => parquetryref11_Explicit.f k l b) ((List.range l.length).map (lv l b), (List.range l.length).map (tv l b)) := by
  unfold parquetryref11_Explicit.f
  refine Ev.ifn (by omega) (Ev.succ ?_)
  simp only [parquetryref11_Explicit.j0]
  refine Ev.ifn (by simp; omega) ?_
  exact rex_l0 l hl b (by omega) (by omega) l.length 0 (by omega)
theorem refExplicit_no (l : List Int) (b : Int) (hb : ¬ (b = 0 ∨ b = 1)) : Ev (fun k => parquetryref11_Explicit.f k l b) ([], []) := by
  have one : Ev (fun k => parquetryref11_Explicit.j0 k l b true) ([], []) := by
    refine Ev.succ ?_
    simp only [parquetryref11_Explicit.j0]
    exact Ev.ifp trivial (Ev.now _)
  unfold parquetryref11_Explicit.f
  by_cases h : b < 0
  · exact Ev.ifp h one
  · rw [decide_eq_true (show b > 1 by omega)]
    exact Ev.ifn h one
end Go.Proofs.Ytdieknpikdepgaa.PC12
