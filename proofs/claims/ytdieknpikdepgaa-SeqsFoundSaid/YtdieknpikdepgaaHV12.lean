/- An initiator and its PDI stand at one level; in between all is at that level (it was lost), or above it, where no B is. Conditions: none. -/
import Derived.Test.YtdieknpikdepgaaHL12
namespace Go.Proofs.Ytdieknpikdepgaa.PC12
open Go.RowKit Go.Proofs.YtdieknpikdepgaaW.PrintWords Go.Proofs.YtdieknpikdepgaaW.PrintLast Go.Proofs.YtdieknpikdepgaaW.PrintMore Go.Proofs.YtdieknpikdepgaaH
set_option linter.unusedVariables false
set_option linter.unusedSimpArgs false
open level_Explicit

/-- Within an isolate that was lost, or is open. -/
def IV (lost : Bool) (d : Nat) (s0 s : S) : Prop := match lost with
  | true => s.p = s0.p + 1 + d ∧ s.st = s0.st ∧ s.q = s0.q ∧ s.z = s0.z
  | false => ∃ t e, s.st = t ++ (e :: s0.st) ∧ e.f2 = true ∧ s0.p = 0 ∧ s0.q = 0 ∧ s.p + t.countP (fun e => e.f2) = d ∧ s.z = s0.z + 1 + t.countP (fun e => e.f2) ∧ ∀ x ∈ t ++ [e], (top s0).f0 < x.f0
theorem push_no {p q : Nat} {n : Int} (h : 0 < p) : pushOk p q n = false := by
  simp [pushOk, h]
theorem top_in {s s0 : S} {t : List E} {e : E} (h : s.st = t ++ (e :: s0.st)) : top s ∈ t ++ [e] := by
  unfold level_Explicit.top
  rw [h]
  cases t <;> simp
theorem IV.emb {lost : Bool} {d : Nat} {s0 s : S} (h : IV lost d s0 s) (o v : Int) : IV lost d s0 (emb s o v) := by
  unfold level_Explicit.emb
  cases lost with
  | true =>
    obtain ⟨h1, h2, h3, h4⟩ := h
    rw [push_no (by omega)]
    simp only [Bool.false_eq_true, if_false]
    rw [if_neg (by omega)]
    exact ⟨h1, h2, h3, h4⟩
  | false =>
    obtain ⟨t, e, h1, h2, h3, h4, h5, h6, h7⟩ := h
    by_cases hp : pushOk s.p s.q (nx (level_Explicit.top s).f0 o) = true
    · rw [if_pos hp, if_pos hp]
      have hn := nx_le (lv := (level_Explicit.top s).f0) (o := o)
      have ht := h7 _ (top_in h1)
      refine ⟨_ :: t, e, by show _ :: s.st = _; rw [h1]; rfl, h2, h3, h4, ?_, ?_, fun x hx => ?_⟩
      · rw [List.countP_cons_of_neg (by simp)]; exact h5
      · rw [List.countP_cons_of_neg (by simp)]; exact h6
      · rcases List.mem_cons.1 hx with rfl | hx
        · show _ < nx _ _
          omega
        · exact h7 x hx
    · rw [if_neg hp, if_neg hp]
      exact ⟨t, e, h1, h2, h3, h4, h5, h6, h7⟩
theorem IV.iso {lost : Bool} {d : Nat} {s0 s : S} (h : IV lost d s0 s) (o : Int) : IV lost (d + 1) s0 (iso s o) := by
  unfold level_Explicit.iso
  cases lost with
  | true =>
    obtain ⟨h1, h2, h3, h4⟩ := h
    rw [push_no (by omega)]
    simp only [Bool.false_eq_true, if_false]
    exact ⟨by show s.p + 1 = _; omega, h2, h3, h4⟩
  | false =>
    obtain ⟨t, e, h1, h2, h3, h4, h5, h6, h7⟩ := h
    by_cases hp : pushOk s.p s.q (nx (level_Explicit.top s).f0 o) = true
    · rw [if_pos hp, if_pos hp, if_pos hp]
      have hn := nx_le (lv := (level_Explicit.top s).f0) (o := o)
      have ht := h7 _ (top_in h1)
      refine ⟨_ :: t, e, by show _ :: s.st = _; rw [h1]; rfl, h2, h3, h4, ?_, ?_, fun x hx => ?_⟩
      · rw [List.countP_cons_of_pos (by simp)]; show s.p + _ = _; omega
      · rw [List.countP_cons_of_pos (by simp)]; show s.z + 1 = _; omega
      · rcases List.mem_cons.1 hx with rfl | hx
        · show _ < nx _ _
          omega
        · exact h7 x hx
    · rw [if_neg hp, if_neg hp, if_neg hp]
      exact ⟨t, e, h1, h2, h3, h4, by show s.p + 1 + _ = _; omega, h6, h7⟩
theorem IV.pdf {lost : Bool} {d : Nat} {s0 s : S} (h : IV lost d s0 s) : IV lost d s0 (pdf s) := by
  unfold level_Explicit.pdf
  cases lost with
  | true =>
    obtain ⟨h1, h2, h3, h4⟩ := h
    rw [if_pos (by omega), if_pos (.inl (by omega))]
    exact ⟨h1, h2, h3, h4⟩
  | false =>
    obtain ⟨t, e, h1, h2, h3, h4, h5, h6, h7⟩ := h
    by_cases hc : 0 < s.p ∨ 0 < s.q ∨ (level_Explicit.top s).f2 = true ∨ s.st.tail = []
    · rw [if_pos hc]
      exact ⟨t, e, h1, h2, h3, h4, h5, h6, h7⟩
    · rw [if_neg hc]
      cases t with
      | nil => exact absurd (.inr (.inr (.inl (by unfold level_Explicit.top; rw [h1]; exact h2)))) hc
      | cons x t =>
        have hx : ¬ (x.f2 = true) := fun e => hc (.inr (.inr (.inl (by unfold level_Explicit.top; rw [h1]; exact e))))
        rw [List.countP_cons_of_neg hx] at h5 h6
        exact ⟨t, e, by show s.st.tail = _; rw [h1]; rfl, h2, h3, h4, h5, h6, fun y hy => h7 y (List.mem_cons_of_mem _ hy)⟩
theorem drop_in (e : E) (he : e.f2 = true) (u : List E) : ∀ t : List E, 0 < t.countP (fun e => e.f2) → ∃ t', (drp (t ++ e :: u)).tail = t' ++ e :: u ∧ t'.countP (fun e => e.f2) + 1 = t.countP (fun e => e.f2) ∧ ∀ x ∈ t', x ∈ t
  | [], h => by simp at h
  | x :: t, h => by
    rw [List.cons_append, drp_cons]
    by_cases hx : x.f2 = true
    · rw [if_pos hx, List.countP_cons_of_pos hx]
      exact ⟨t, rfl, rfl, fun y hy => List.mem_cons_of_mem _ hy⟩
    · rw [List.countP_cons_of_neg hx] at h ⊢
      rw [if_neg hx]
      obtain ⟨t', h1, h2, h3⟩ := drop_in e he u t h
      exact ⟨t', h1, h2, fun y hy => List.mem_cons_of_mem _ (h3 y hy)⟩
theorem drop_out (e : E) (he : e.f2 = true) (u : List E) : ∀ t : List E, t.countP (fun e => e.f2) = 0 → (drp (t ++ e :: u)).tail = u
  | [], h => by
    rw [List.nil_append, drp_cons, if_pos he]
    rfl
  | x :: t, h => by
    rw [List.cons_append, drp_cons]
    by_cases hx : x.f2 = true
    · rw [List.countP_cons_of_pos hx] at h
      omega
    · rw [List.countP_cons_of_neg hx] at h
      rw [if_neg hx]
      exact drop_out e he u t h
theorem IV.pdi {lost : Bool} {d : Nat} {s0 s : S} (h : IV lost (d + 1) s0 s) : IV lost d s0 (pdi s) := by
  unfold level_Explicit.pdi
  cases lost with
  | true =>
    obtain ⟨h1, h2, h3, h4⟩ := h
    rw [if_neg (by omega), if_neg (by omega), if_neg (by omega)]
    exact ⟨by show s.p - 1 = _; omega, h2, h3, h4⟩
  | false =>
    obtain ⟨t, e, h1, h2, h3, h4, h5, h6, h7⟩ := h
    by_cases hp : s.p = 0
    · rw [if_pos ⟨hp, by omega⟩, if_pos hp, if_pos ⟨hp, by omega⟩]
      obtain ⟨t', h8, h9, h10⟩ := drop_in e h2 s0.st t (by omega)
      refine ⟨t', e, by show (drp s.st).tail = _; rw [h1, h8], h2, h3, h4, by show s.p - 1 + _ = _; omega, by show s.z - 1 = _; omega, fun x hx => ?_⟩
      rcases List.mem_append.1 hx with hx | hx
      · exact h7 x (List.mem_append_left _ (h10 x hx))
      · exact h7 x (List.mem_append_right _ hx)
    · rw [if_neg (fun h => hp h.1), if_neg hp, if_neg (fun h => hp h.1)]
      exact ⟨t, e, h1, h2, h3, h4, by show s.p - 1 + _ = _; omega, h6, h7⟩
theorem IV.out {lost : Bool} {s0 s : S} (h : IV lost 0 s0 s) : level_Explicit.pdi s = s0 := by
  unfold level_Explicit.pdi
  obtain ⟨p0, q0, z0, st0⟩ := s0
  cases lost with
  | true =>
    obtain ⟨h1, h2, h3, h4⟩ := h
    rw [if_neg (by omega), if_neg (by omega), if_neg (by omega), h1, h2, h3, h4]
    rfl
  | false =>
    obtain ⟨t, e, h1, h2, h3, h4, h5, h6, h7⟩ := h
    simp only at h1 h3 h4 h6
    rw [if_pos ⟨by omega, by omega⟩, if_pos (by omega), if_pos ⟨by omega, by omega⟩, h1, drop_out e h2 st0 t (by omega)]
    congr 1
    · omega
    · exact h4.symm
    · omega
theorem IV.s1 {lost : Bool} {d : Nat} {s0 s : S} (h : IV lost d s0 s) {c : Int} (hc : c ≠ 22) : IV lost d s0 (s1 s c) := by
  unfold level_Explicit.s1
  split
  · exact h.emb _ _
  split
  · exact h.emb _ _
  split
  · exact h.emb _ _
  split
  · exact h.emb _ _
  split
  · exact h.pdf
  exact h
theorem IV.first (s0 : S) (o : Int) : ∃ lost, IV lost 0 s0 (level_Explicit.iso s0 o) := by
  unfold level_Explicit.iso
  by_cases hp : pushOk s0.p s0.q (nx (level_Explicit.top s0).f0 o) = true
  · rw [if_pos hp, if_pos hp, if_pos hp]
    have := pushOk_le hp
    have hn := nx_le (lv := (level_Explicit.top s0).f0) (o := o)
    exact ⟨false, [], ⟨nx (level_Explicit.top s0).f0 o, -1, true⟩, rfl, rfl, this.2.1, this.2.2, by show s0.p + 0 = 0; omega, rfl, fun x hx => by
      obtain rfl := List.mem_singleton.1 hx
      show _ < nx _ _
      omega⟩
  · rw [if_neg hp, if_neg hp, if_neg hp]
    exact ⟨true, rfl, rfl, rfl, rfl⟩
theorem s2v_ini {l : List Int} {i : Nat} (hc : ini (at' l i) = true) (s : S) : ∃ o, s2v l i s = iso s o := by
  have h : at' l i = 19 ∨ at' l i = 20 ∨ at' l i = 21 := by simpa [ini] using hc
  unfold s2v
  split
  · exact ⟨_, rfl⟩
  split
  · exact ⟨_, rfl⟩
  split
  · exact ⟨_, rfl⟩
  · omega
/-- Within an isolate, up to each place in it. -/
theorem sat_seg (l : List Int) (b : Int) (k : Nat) (hk : k < l.length) (hi : ini (at' l k) = true) :
    ∃ lost, ∀ j d, k + 1 + j ≤ l.length → seg ((l.take (k + 1 + j)).drop (k + 1)) 0 = some d → IV lost d (sat l b k) (sat l b (k + 1 + j)) := by
  obtain ⟨o, ho⟩ := s2v_ini hi (s1 (sat l b k) (at' l k))
  obtain ⟨lost, h0⟩ := IV.first (sat l b k) o
  refine ⟨lost, fun j => ?_⟩
  induction j with
  | zero =>
    intro d _ hd
    rw [show (l.take (k + 1 + 0)).drop (k + 1) = [] by rw [List.drop_eq_nil_iff, List.length_take]; omega] at hd
    obtain rfl : 0 = d := by simpa [seg] using hd
    show IV lost 0 (sat l b k) (s2v l k (s1 (sat l b k) (at' l k)))
    rw [ho, s1_ini hi]
    exact h0
  | succ j ih =>
    intro d hj hd
    have hp : k + 1 + j < l.length := by omega
    have e : (l.take (k + 1 + (j + 1))).drop (k + 1) = (l.take (k + 1 + j)).drop (k + 1) ++ [at' l (k + 1 + j)] := by
      rw [show k + 1 + (j + 1) = k + 1 + j + 1 by omega, take_one l _ hp, List.drop_append, show k + 1 - (l.take (k + 1 + j)).length = 0 by rw [List.length_take]; omega]
      rfl
    rw [e, seg_one] at hd
    obtain ⟨d0, h1, h2⟩ := Option.bind_eq_some_iff.1 hd
    have h3 := ih d0 (by omega) h1
    show IV lost d (sat l b k) (s2v l (k + 1 + j) (s1 (sat l b (k + 1 + j)) (at' l (k + 1 + j))))
    by_cases h22 : at' l (k + 1 + j) = 22
    · rw [if_pos h22] at h2
      rw [s2v_not (fun h => ini_ne h h22), h22]
      cases d0 with
      | zero => cases h2
      | succ d0 =>
        obtain rfl := Option.some.inj h2
        exact h3.pdi
    · rw [if_neg h22] at h2
      by_cases hc : ini (at' l (k + 1 + j)) = true
      · rw [if_pos hc] at h2
        obtain rfl := Option.some.inj h2
        obtain ⟨o', ho'⟩ := s2v_ini hc (s1 (sat l b (k + 1 + j)) (at' l (k + 1 + j)))
        rw [ho', s1_ini hc]
        exact h3.iso o'
      · rw [if_neg hc] at h2
        obtain rfl := Option.some.inj h2
        rw [s2v_not hc]
        exact h3.s1 h22
theorem IV.tops {lost : Bool} {d : Nat} {s0 s : S} (h : IV lost d s0 s) : (lost = true → (top s).f0 = (top s0).f0) ∧ (lost = false → (top s0).f0 < (top s).f0) := by
  cases lost with
  | true => exact ⟨fun _ => by unfold level_Explicit.top; rw [h.2.1], fun e => by cases e⟩
  | false =>
    obtain ⟨t, e, h1, h2, h3, h4, h5, h6, h7⟩ := h
    exact ⟨fun e => by (cases e), fun _ => h7 _ (top_in h1)⟩
theorem gone_22 : gone 22 = false := by decide
theorem gone_ini {c : Int} (h : ini c = true) : gone c = false := by
  have h1 : c = 19 ∨ c = 20 ∨ c = 21 := by simpa [ini] using h
  rcases h1 with rfl | rfl | rfl <;> decide
/-- A PDI, its initiator, and what stands between. -/
theorem pair_lv (l : List Int) (b : Int) (k i : Nat) (hk : k < i) (hi : i < l.length) (hc : ini (at' l k) = true) (h22 : at' l i = 22) (ho : (ope l i).head? = some k) :
    lv l b i = lv l b k ∧ ((∀ x, k < x → x < i → at' l x ≠ 10) → (∀ x, k < x → x < i → 0 ≤ lv l b x → lv l b x = lv l b k) ∨ (∀ x, k < x → x < i → 0 ≤ lv l b x → lv l b k < lv l b x)) := by
  obtain ⟨lost, H⟩ := sat_seg l b k (by omega) hc
  have hs : seg ((l.take i).drop (k + 1)) 0 = some 0 := (ope_seg l i k 0 (by omega) hk hc).2 (by rw [← List.head?_eq_getElem?]; exact ho)
  have hx : ∀ x, k < x → x ≤ i → ∃ d, seg ((l.take x).drop (k + 1)) 0 = some d ∧ IV lost d (sat l b k) (sat l b x) := by
    intro x h1 h2
    have e : (l.take i).drop (k + 1) = (l.take x).drop (k + 1) ++ (l.take i).drop x := by
      conv => lhs; rw [← List.take_append_drop x (l.take i), List.take_take, Nat.min_eq_left h2]
      rw [List.drop_append, show k + 1 - (l.take x).length = 0 by rw [List.length_take]; omega]
      rfl
    rw [e, seg_append] at hs
    obtain ⟨d, h3, _⟩ := Option.bind_eq_some_iff.1 hs
    have := H (x - (k + 1)) d (by omega) (by rw [show k + 1 + (x - (k + 1)) = x by omega]; exact h3)
    rw [show k + 1 + (x - (k + 1)) = x by omega] at this
    exact ⟨d, h3, this⟩
  have hk0 : lv l b k = (top (sat l b k)).f0 := by
    have h1 : at' l k = 19 ∨ at' l k = 20 ∨ at' l k = 21 := by simpa [ini] using hc
    unfold lv level_Explicit.at1
    rw [gone_ini hc, if_neg (by decide), if_neg (by omega), if_neg (by omega)]
  refine ⟨?_, fun hB => ?_⟩
  · obtain ⟨d, h1, h2⟩ := hx i hk (Nat.le_refl _)
    rw [hs] at h1
    obtain rfl := Option.some.inj h1
    rw [hk0]
    unfold lv level_Explicit.at1
    rw [h22, gone_22, if_neg (by decide), if_neg (by decide), if_pos rfl, h2.out]
  · have key : ∀ x, k < x → x < i → 0 ≤ lv l b x → (lost = true → lv l b x = lv l b k) ∧ (lost = false → lv l b k < lv l b x) := by
      intro x h1 h2 h3
      rw [hk0]
      have hg : ¬ gone (at' l x) = true := fun h => by
        unfold lv at h3
        rw [if_pos h] at h3
        omega
      have e : lv l b x = if at' l x = 22 then (top (pdi (sat l b x))).f0 else (top (sat l b x)).f0 := by
        unfold lv level_Explicit.at1
        rw [if_neg hg, if_neg (hB x h1 h2)]
      rw [e]
      by_cases hx22 : at' l x = 22
      · rw [if_pos hx22]
        obtain ⟨d, _, h5⟩ := hx (x + 1) (by omega) (by omega)
        have e2 : sat l b (x + 1) = pdi (sat l b x) := by
          show s2v l x (s1 (sat l b x) (at' l x)) = _
          rw [s2v_not (fun h => ini_ne h hx22), hx22]
          rfl
        rw [e2] at h5
        exact h5.tops
      · rw [if_neg hx22]
        obtain ⟨d, _, h5⟩ := hx x h1 (by omega)
        exact h5.tops
    cases lost with
    | true => exact .inl fun x h1 h2 h3 => (key x h1 h2 h3).1 rfl
    | false => exact .inr fun x h1 h2 h3 => (key x h1 h2 h3).2 rfl
end Go.Proofs.Ytdieknpikdepgaa.PC12
