/- What level.Explicit tells, as a plain function. Conditions: at most 100000 classes; the level 0 or 1. -/
import Derived.Test.YtdieknpikdepgaaPC12x2
import Derived.Test.YtdieknpikdepgaaHM12
namespace Go.Proofs.Ytdieknpikdepgaa.PC12
open Go.RowKit Go.Proofs.YtdieknpikdepgaaW.PrintWords Go.Proofs.YtdieknpikdepgaaW.PrintLast Go.Proofs.YtdieknpikdepgaaW.PrintMore Go.Proofs.YtdieknpikdepgaaH
set_option linter.unusedVariables false
set_option linter.unusedSimpArgs false
open level_Explicit

theorem Ev.shift {α : Type} {g : Nat → Option α} {r : α} (j : Nat) (h : Ev g r) : Ev (fun k => g (k + j)) r := by
  obtain ⟨K, hK⟩ := h
  exact ⟨K, fun k hk => hK (k + j) (by omega)⟩
/-- Is a class removed? -/
def gone (c : Int) : Bool := decide (c = 16) || (decide (c = 14) || (decide (c = 17) || (decide (c = 15) || (decide (c = 18) || decide (c = 9)))))
theorem removed_eq (c : Int) : level_Removed.f c = some (gone c) := by
  unfold level_Removed.f gone
  by_cases h1 : c = 16
  · simp [h1]
  by_cases h2 : c = 14
  · simp [h2]
  by_cases h3 : c = 17
  · simp [h3]
  by_cases h4 : c = 15
  · simp [h4]
  by_cases h5 : c = 18
  · simp [h5]
  by_cases h6 : c = 9
  · simp [h6]
  simp [h1, h2, h3, h4, h5, h6]
/-- The level that an FSI at a place takes its odd or even from. -/
def fsi (l : List Int) (i : Nat) : Int := (lev ((l.take (endOf l i)).drop (i + 1)) 0).1
def s2v (l : List Int) (i : Nat) (s : S) : S := if at' l i = 20 then iso s 1 else if at' l i = 19 then iso s 0 else if at' l i = 21 then iso s (fsi l i) else s
theorem s2_ev (l : List Int) (hl : l.length < 1000000) (i : Nat) (hi : i < l.length) (s : S) : Ev (fun k => s2 k l (mAll l) i (at' l i) s) (s2v l i s) := by
  unfold s2 s2v
  by_cases h1 : at' l i = 20
  · rw [if_pos h1]
    exact Ev.ifp h1 (Ev.now _)
  rw [if_neg h1]
  refine Ev.ifn h1 ?_
  by_cases h2 : at' l i = 19
  · rw [if_pos h2]
    exact Ev.ifp h2 (Ev.now _)
  rw [if_neg h2]
  refine Ev.ifn h2 ?_
  by_cases h3 : at' l i = 21
  · rw [if_pos h3]
    refine Ev.ifp h3 ?_
    have hm : rd (mAll l) (i : Int) = (endOf l i : Int) := by
      rw [rd_at]
      unfold at'
      rw [mAll_get l i hi]
      unfold mAt
      rw [if_pos (by rw [h3]; rfl)]
    have h4 := endOf_gt l i hi
    have h5 := endOf_le l i
    rw [hm]
    refine Ev.ifp ⟨by rw [mAll_len]; omega, by omega, by omega⟩ ?_
    rw [Int.toNat_natCast]
    exact Ev.bind (level_ev _ (by rw [List.length_drop, List.length_take]; omega)) (Ev.now _)
  · rw [if_neg h3]
    exact Ev.ifn h3 (Ev.now _)
/-- What is open ahead of a place. -/
def sat (l : List Int) (b : Int) : Nat → S
  | 0 => ⟨0, 0, 0, [⟨b, -1, false⟩]⟩
  | i + 1 => s2v l i (s1 (sat l b i) (at' l i))
def lv (l : List Int) (b : Int) (i : Nat) : Int := if gone (at' l i) = true then -1 else at1 b (sat l b i) (at' l i)
def tv (l : List Int) (b : Int) (i : Nat) : Int := as1 (sat l b i) (at' l i)
/-- How what is open is made. -/
structure Good (b : Int) (i : Nat) (s : S) : Prop where
  bot : ∃ t, s.st = t ++ [(⟨b, -1, false⟩ : E)]
  all : ∀ e ∈ s.st, b ≤ e.f0 ∧ e.f0 ≤ 125 ∧ (e.f1 = -1 ∨ e.f1 = 0 ∨ e.f1 = 1)
  len : s.st.length ≤ i + 1
  p : s.p ≤ i
  q : s.q ≤ i
  z : s.z = s.st.countP fun e => e.f2
theorem Good.more {b : Int} {i j : Nat} {s : S} (h : Good b i s) (hj : i ≤ j) : Good b j s := ⟨h.bot, h.all, by have := h.len; omega, by have := h.p; omega, by have := h.q; omega, h.z⟩
theorem Good.top {b : Int} {i : Nat} {s : S} (h : Good b i s) : top s ∈ s.st := by
  obtain ⟨t, ht⟩ := h.bot
  unfold level_Explicit.top
  rw [ht]
  cases t <;> simp
theorem Good.ok {b : Int} (hb : 0 ≤ b) {i : Nat} (hi : i < 999998) {s : S} (h : Good b i s) : level_Explicit.gd s = true := by
  obtain ⟨h1, h2, h3⟩ := h.all _ h.top
  have h4 := h.len
  have h5 := h.p
  have h6 := h.q
  have h7 := h.z
  have h8 : s.st.countP (fun e => e.f2) ≤ s.st.length := List.countP_le_length
  unfold level_Explicit.gd
  simp only [Bool.and_eq_true, Bool.or_eq_true, Bool.not_eq_true', decide_eq_true_eq]
  refine ⟨⟨⟨⟨⟨⟨⟨?_, by omega⟩, h2⟩, by omega⟩, by omega⟩, by omega⟩, by omega⟩, ?_⟩
  · obtain ⟨t, ht⟩ := h.bot
    rw [ht]
    cases t <;> rfl
  · by_cases hz : s.z = 0
    · exact .inl hz
    · refine .inr ?_
      have h9 : 0 < s.st.countP fun e => e.f2 := by omega
      obtain ⟨e, he, h10⟩ := List.countP_pos_iff.1 h9
      exact List.any_eq_true.2 ⟨e, he, h10⟩
theorem nx_le {lv o : Int} : lv + 1 ≤ nx lv o := by
  unfold nx
  split <;> omega
theorem pushOk_le {p q : Nat} {n : Int} (h : pushOk p q n = true) : n ≤ 125 ∧ p = 0 ∧ q = 0 := by
  simp only [pushOk, Bool.not_eq_true', Bool.or_eq_false_iff, decide_eq_false_iff_not] at h
  omega
theorem Good.emb {b : Int} {i : Nat} {s : S} (h : Good b i s) (o v : Int) (hv : v = -1 ∨ v = 0 ∨ v = 1) : Good b (i + 1) (emb s o v) := by
  unfold level_Explicit.emb
  by_cases hp : pushOk s.p s.q (nx (level_Explicit.top s).f0 o) = true
  · rw [if_pos hp, if_pos hp]
    obtain ⟨t, ht⟩ := h.bot
    have h1 := (h.all _ h.top).1
    have h2 := nx_le (lv := (level_Explicit.top s).f0) (o := o)
    refine ⟨⟨_ :: t, by rw [ht]; rfl⟩, fun e he => ?_, ?_, by have := h.p; show s.p ≤ _; omega, by have := h.q; show s.q ≤ _; omega, ?_⟩
    · rcases List.mem_cons.1 he with rfl | he
      · exact ⟨by show b ≤ nx _ _; omega, (pushOk_le hp).1, hv⟩
      · exact h.all _ he
    · have := h.len
      show (_ :: s.st).length ≤ _
      simp only [List.length_cons]
      omega
    · show s.z = (_ :: s.st).countP _
      rw [List.countP_cons_of_neg (by simp), h.z]
  · rw [if_neg hp, if_neg hp]
    refine ⟨h.bot, h.all, by have := h.len; show s.st.length ≤ _; omega, by have := h.p; show s.p ≤ _; omega, ?_, h.z⟩
    have := h.q
    show (if s.p = 0 then s.q + 1 else s.q) ≤ i + 1
    split <;> omega
theorem Good.iso {b : Int} {i : Nat} {s : S} (h : Good b i s) (o : Int) : Good b (i + 1) (iso s o) := by
  unfold level_Explicit.iso
  by_cases hp : pushOk s.p s.q (nx (level_Explicit.top s).f0 o) = true
  · rw [if_pos hp, if_pos hp, if_pos hp]
    obtain ⟨t, ht⟩ := h.bot
    have h1 := (h.all _ h.top).1
    have h2 := nx_le (lv := (level_Explicit.top s).f0) (o := o)
    refine ⟨⟨_ :: t, by rw [ht]; rfl⟩, fun e he => ?_, ?_, by have := h.p; show s.p ≤ _; omega, by have := h.q; show s.q ≤ _; omega, ?_⟩
    · rcases List.mem_cons.1 he with rfl | he
      · exact ⟨by show b ≤ nx _ _; omega, (pushOk_le hp).1, .inl rfl⟩
      · exact h.all _ he
    · have := h.len
      show (_ :: s.st).length ≤ _
      simp only [List.length_cons]
      omega
    · show s.z + 1 = (_ :: s.st).countP _
      rw [List.countP_cons_of_pos (by simp), h.z]
  · rw [if_neg hp, if_neg hp, if_neg hp]
    exact ⟨h.bot, h.all, by have := h.len; show s.st.length ≤ _; omega, by have := h.p; show s.p + 1 ≤ _; omega, by have := h.q; show s.q ≤ _; omega, h.z⟩
theorem Good.pdf {b : Int} {i : Nat} {s : S} (h : Good b i s) : Good b (i + 1) (pdf s) := by
  unfold level_Explicit.pdf
  have hq : (if 0 < s.p then s.q else s.q - 1) ≤ i + 1 := by have := h.q; split <;> omega
  have hp : s.p ≤ i + 1 := by have := h.p; omega
  by_cases hc : 0 < s.p ∨ 0 < s.q ∨ (level_Explicit.top s).f2 = true ∨ s.st.tail = []
  · rw [if_pos hc]
    exact ⟨h.bot, h.all, by have := h.len; show s.st.length ≤ _; omega, hp, hq, h.z⟩
  · rw [if_neg hc]
    obtain ⟨t, ht⟩ := h.bot
    cases t with
    | nil => exact absurd (.inr (.inr (.inr (by rw [ht]; rfl)))) hc
    | cons x t =>
      refine ⟨⟨t, by show s.st.tail = _; rw [ht]; rfl⟩, fun e he => h.all _ (List.mem_of_mem_tail he), ?_, hp, hq, ?_⟩
      · have := h.len
        show s.st.tail.length ≤ _
        rw [List.length_tail]
        omega
      · have h1 : ¬ (x.f2 = true) := fun e => hc (.inr (.inr (.inl (by unfold level_Explicit.top; rw [ht]; exact e))))
        have h2 := h.z
        show s.z = s.st.tail.countP _
        rw [ht] at h2 ⊢
        rw [h2]
        exact List.countP_cons_of_neg h1
theorem drp_made (b : Int) : ∀ t : List E, 0 < (t ++ [(⟨b, -1, false⟩ : E)]).countP (fun e => e.f2) → ∃ t', (drp (t ++ [(⟨b, -1, false⟩ : E)])).tail = t' ++ [(⟨b, -1, false⟩ : E)] ∧ (t' ++ [(⟨b, -1, false⟩ : E)]).countP (fun e => e.f2) + 1 = (t ++ [(⟨b, -1, false⟩ : E)]).countP (fun e => e.f2) ∧ t'.length < t.length ∧ ∀ e ∈ t', e ∈ t
  | [], h => by simp at h
  | x :: t, h => by
    rw [List.cons_append, drp_cons]
    by_cases hx : x.f2 = true
    · rw [if_pos hx, List.countP_cons_of_pos hx]
      exact ⟨t, rfl, rfl, by simp, fun e he => List.mem_cons_of_mem _ he⟩
    · rw [List.cons_append, List.countP_cons_of_neg hx] at h
      rw [if_neg hx, List.countP_cons_of_neg hx]
      obtain ⟨t', h1, h2, h3, h4⟩ := drp_made b t h
      exact ⟨t', h1, h2, by simp only [List.length_cons]; omega, fun e he => List.mem_cons_of_mem _ (h4 e he)⟩
theorem Good.pdi {b : Int} {i : Nat} {s : S} (h : Good b i s) : Good b (i + 1) (pdi s) := by
  unfold level_Explicit.pdi
  have hp : s.p - 1 ≤ i + 1 := by have := h.p; omega
  by_cases hc : s.p = 0 ∧ 0 < s.z
  · rw [if_pos hc, if_pos hc.1, if_pos hc]
    obtain ⟨t, ht⟩ := h.bot
    have hz := h.z
    have hl := h.len
    rw [ht] at hz hl
    obtain ⟨t', h1, h2, h3, h4⟩ := drp_made b t (by rw [← hz]; exact hc.2)
    rw [← ht] at h1
    refine ⟨⟨t', h1⟩, fun e he => ?_, ?_, hp, Nat.zero_le _, ?_⟩
    · refine h.all e ?_
      have he2 : e ∈ t' ++ [(⟨b, -1, false⟩ : E)] := h1 ▸ he
      rw [ht]
      rcases List.mem_append.1 he2 with h5 | h5
      · exact List.mem_append.2 (.inl (h4 _ h5))
      · exact List.mem_append.2 (.inr h5)
    · show (drp s.st).tail.length ≤ _
      rw [h1]
      simp only [List.length_append, List.length_cons, List.length_nil] at hl ⊢
      omega
    · show s.z - 1 = (drp s.st).tail.countP _
      rw [h1]
      omega
  · rw [if_neg hc, if_neg hc]
    have hz : (if s.p = 0 then s.z - 1 else s.z) = s.z := by split <;> omega
    rw [hz]
    exact ⟨h.bot, h.all, by have := h.len; show s.st.length ≤ _; omega, hp, by have := h.q; show s.q ≤ _; omega, h.z⟩
theorem Good.s1 {b : Int} {i : Nat} {s : S} (h : Good b i s) (c : Int) : Good b (i + 1) (s1 s c) := by
  unfold level_Explicit.s1
  split
  · exact h.emb _ _ (.inl rfl)
  split
  · exact h.emb _ _ (.inl rfl)
  split
  · exact h.emb _ _ (.inr (.inr rfl))
  split
  · exact h.emb _ _ (.inr (.inl rfl))
  split
  · exact h.pdf
  split
  · exact h.pdi
  · exact h.more (Nat.le_succ _)
theorem s1_ini {c : Int} (hc : ini c = true) (s : S) : s1 s c = s := by
  have h0 : c = 19 ∨ c = 20 ∨ c = 21 := by simpa [ini] using hc
  unfold s1
  rw [if_neg (by omega), if_neg (by omega), if_neg (by omega), if_neg (by omega), if_neg (by omega), if_neg (by omega)]
theorem s2v_not {l : List Int} {i : Nat} (hc : ¬ (ini (at' l i) = true)) (s : S) : s2v l i s = s := by
  have h0 : ¬ (at' l i = 19 ∨ at' l i = 20 ∨ at' l i = 21) := by simpa [ini] using hc
  unfold s2v
  rw [if_neg (by omega), if_neg (by omega), if_neg (by omega)]
theorem Good.sat (l : List Int) {b : Int} (hb : b ≤ 125) : ∀ i, Good b i (sat l b i)
  | 0 => ⟨⟨[], rfl⟩, fun e he => by
      have : e = ⟨b, -1, false⟩ := by simpa [level_Explicit.E, PC12.sat] using he
      subst this
      exact ⟨Int.le_refl _, hb, .inl rfl⟩, Nat.le_refl _, Nat.le_refl _, Nat.le_refl _, rfl⟩
  | i + 1 => by
    have ih := Good.sat l hb i
    show Good b (i + 1) (s2v l i (level_Explicit.s1 (PC12.sat l b i) (at' l i)))
    by_cases hc : ini (at' l i) = true
    · rw [s1_ini hc]
      have h0 : at' l i = 19 ∨ at' l i = 20 ∨ at' l i = 21 := by simpa [ini] using hc
      unfold s2v
      split
      · exact ih.iso _
      split
      · exact ih.iso _
      split
      · exact ih.iso _
      · omega
    · rw [s2v_not hc]
      exact ih.s1 _
theorem lp_ev (l : List Int) (hl : l.length < 100000) (b : Int) (hb0 : 0 ≤ b) (hb : b ≤ 125) : ∀ n i, i + n = l.length → ∀ j, Ev (fun k => lp (k + j) k l (mAll l) b (sat l b i) ((List.range i).map (lv l b)) ((List.range i).map (tv l b))) ((List.range l.length).map (lv l b), (List.range l.length).map (tv l b))
  | 0, i, h, j => by
    refine Ev.succ ?_
    simp only [lp, List.length_map, List.length_range]
    obtain rfl : i = l.length := by omega
    exact Ev.ifn (by omega) (Ev.now _)
  | n + 1, i, h, j => by
    have ih := lp_ev l hl b hb0 hb n (i + 1) (by omega) (j + 1)
    have hi : i < l.length := by omega
    refine Ev.succ ?_
    simp only [lp, List.length_map, List.length_range]
    rw [rd_at]
    have g0 := Good.sat l hb i
    refine Ev.ifp hi (Ev.ifp ⟨by omega, g0.ok hb0 (by omega), (g0.s1 _).ok hb0 (by omega)⟩ ?_)
    simp only [removed_eq, Option.bind_some]
    refine Ev.bind (Ev.congr (fun k => by rw [show k + 1 + j = k + (j + 1) by omega]) (Ev.shift (j + 1) (s2_ev l (by omega) i hi _))) ?_
    refine Ev.congr (fun k => ?_) ih
    rw [show k + 1 + j = k + (j + 1) by omega, List.range_succ, List.map_append, List.map_append]
    rfl
theorem explicit_ev (l : List Int) (hl : l.length < 100000) (b : Int) (hb : b = 0 ∨ b = 1) : Ev (fun k => level_Explicit.f k l b) ((List.range l.length).map (lv l b), (List.range l.length).map (tv l b)) := by
  unfold level_Explicit.f
  refine Ev.ifp hb ?_
  refine Ev.bind (match_ev l (by omega)) ?_
  exact lp_ev l hl b (by omega) (by omega) l.length 0 (by omega) 0
theorem rd_map (n : Nat) (g : Nat → Int) (i : Nat) (hi : i < n) : rd ((List.range n).map g) (i : Int) = g i := by
  rw [rd_at]
  unfold at'
  rw [List.getD_eq_getElem?_getD, List.getElem?_map, List.getElem?_range hi]
  rfl

end Go.Proofs.Ytdieknpikdepgaa.PC12
