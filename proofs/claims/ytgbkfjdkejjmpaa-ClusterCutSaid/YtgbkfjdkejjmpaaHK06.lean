/- Chapter 6: runes that are cut ahead of a cluster: the groups of both parts are those ahead of the cut, and those behind it. Conditions: at most 100000 runes. -/
import Derived.Test.YtgbkfjdkejjmpaaHJ06
namespace Go.Proofs.Ytgbkfjdkejjmpaa.PC06
open Go.RowKit Go.Proofs.YtgbkfjdkejjmpaaW.PrintWords Go.Proofs.YtgbkfjdkejjmpaaW.PrintLast Go.Proofs.YtgbkfjdkejjmpaaW.PrintMore Go.Proofs.YtgbkfjdkejjmpaaH
set_option linter.unusedVariables false
set_option linter.unusedSimpArgs false
open Q01 (Chain chain_of chain_le runesOf runesOf_len)
open Q05 (gk pk rng)

/-- What is ahead counts alike. -/
def Alike (p q : List Int) : Prop := ∃ a x y, p = a :: x ∧ q = a :: y ∧ tie p = tie q ∧ fl p % 2 = fl q % 2
theorem alike_jb {p q : List Int} (h : Alike p q) (b : Int) : Jb p b = Jb q b := by
  obtain ⟨a, x, y, rfl, rfl, h1, h2⟩ := h
  unfold Jb
  simp only
  rw [h1, h2]
theorem alike_more {p q : List Int} (h : Alike p q) (b : Int) : Alike (b :: p) (b :: q) := by
  obtain ⟨a, x, y, rfl, rfl, h1, h2⟩ := h
  refine ⟨b, _, _, rfl, rfl, ?_, ?_⟩
  · show cluster_seen_then.tie (gk b) (pk b) (tie (a :: x)) = cluster_seen_then.tie (gk b) (pk b) (tie (a :: y))
    rw [h1]
  · rw [fl_cons b (a :: x), fl_cons b (a :: y)]
    split <;> omega
theorem alike_grps : ∀ (t cur : List Rn) (p q : List Int), Alike p q → grps t cur p = grps t cur q
  | [], cur, p, q, h => rfl
  | r :: t, cur, p, q, h => by
    unfold grps
    rw [alike_jb h r.f2, alike_grps t _ _ _ (alike_more h r.f2), alike_grps t _ _ _ (alike_more h r.f2)]
set_option maxRecDepth 100000 in
theorem two_45 : ∀ m : Nat, m < 14 → (m = 1 ∨ m = 2 ∨ m = 3) ∨ (twoV (m : Int) 4 = true ∧ twoV (m : Int) 5 = true) := by decide +kernel
theorem two_ext (a b : Int) (ha : ¬ (gk a = 1 ∨ gk a = 2 ∨ gk a = 3)) (hb : gk b = 4 ∨ gk b = 5) : twoV (gk a) (gk b) = true := by
  have key : (gk a = 1 ∨ gk a = 2 ∨ gk a = 3) ∨ (twoV (gk a) 4 = true ∧ twoV (gk a) 5 = true) :=
    kinds14 (fun x => (x = 1 ∨ x = 2 ∨ x = 3) ∨ (twoV x 4 = true ∧ twoV x 5 = true)) (fun m hm => by
      rcases two_45 m hm with h | h
      · exact .inl (by omega)
      · exact .inr h) a
  rcases key with h | h
  · exact absurd h ha
  · rcases hb with e | e
    · rw [e]; exact h.1
    · rw [e]; exact h.2
/-- At a cut what is ahead counts no more. -/
theorem alike_cut (a b : Int) (p : List Int) (h : Jb (a :: p) b = false) : Alike (b :: a :: p) [b] := by
  unfold Jb at h
  simp only [Bool.or_eq_false_iff] at h
  obtain ⟨⟨h1, h2⟩, h3⟩ := h
  rw [two_eq] at h1
  refine ⟨b, _, _, rfl, rfl, ?_, ?_⟩
  · show cluster_seen_then.tie (gk b) (pk b) (tie (a :: p)) = cluster_seen_then.tie (gk b) (pk b) 0
    unfold cluster_seen_then.tie
    by_cases hp : pk b = true
    · rw [if_pos hp, if_pos hp]
    · rw [if_neg hp, if_neg hp]
      have hn : (gk b = 4 ∨ gk b = 5) → (tie (a :: p) == 1) = false := fun hb => by
        rw [tie_near]
        unfold near
        by_cases h4 : gk a = 4
        · have := two_ext a b (by omega) hb
          rw [this] at h1
          cases h1
        · rw [if_neg h4]
          cases hpa : pk a with
          | false => rfl
          | true =>
            have h5 := pk_gk a hpa
            have := two_ext a b (by omega) hb
            rw [this] at h1
            cases h1
      by_cases h4 : gk b = 4
      · rw [if_pos (beq_iff_eq.2 h4), if_pos (beq_iff_eq.2 h4), hn (.inl h4)]
        rfl
      · rw [if_neg (fun e => h4 (beq_iff_eq.1 e)), if_neg (fun e => h4 (beq_iff_eq.1 e))]
        by_cases h5 : gk b = 5
        · rw [if_pos (beq_iff_eq.2 h5), if_pos (beq_iff_eq.2 h5), hn (.inr h5)]
          rfl
        · rw [if_neg (fun e => h5 (beq_iff_eq.1 e)), if_neg (fun e => h5 (beq_iff_eq.1 e))]
  · have e1 : fl [b] = if gk b = 6 then 0 + 1 else 0 := rfl
    rw [fl_cons b (a :: p), e1]
    by_cases h6 : gk b = 6
    · rw [if_pos h6, if_pos h6]
      rw [beq_iff_eq.2 h6, Bool.true_and, beq_eq_false_iff_ne] at h3
      omega
    · rw [if_neg h6, if_neg h6]
/-! behind the cut -/
theorem grps_tail : ∀ (t cur : List Rn) (a : Int) (p : List Int), (grps t cur (a :: p)).tail = grp (grps t cur (a :: p)).tail.flatten
  | [], cur, a, p => rfl
  | r :: t, cur, a, p => by
    unfold grps
    by_cases hj : Jb (a :: p) r.f2 = true
    · rw [if_pos hj]
      exact grps_tail t (cur ++ [r]) r.f2 (a :: p)
    · rw [if_neg hj, List.tail_cons, grps_flat]
      show grps t [r] (r.f2 :: a :: p) = grps t [r] [r.f2]
      exact alike_grps t [r] _ _ (alike_cut a r.f2 p (by simpa using hj))
theorem grp_tail (l : List Rn) : (grp l).tail = grp (grp l).tail.flatten := by
  cases l with
  | nil => rfl
  | cons r t => exact grps_tail t [r] r.f2 []
theorem grp_drop (l : List Rn) : ∀ k, grp ((grp l).drop k).flatten = (grp l).drop k
  | 0 => by rw [List.drop_zero, grp_flat]
  | k + 1 => by
    have ih := grp_drop l k
    have h := grp_tail ((grp l).drop k).flatten
    rw [ih, List.tail_drop] at h
    exact h.symm
/-! ahead of the cut -/
theorem grps_first : ∀ (t cur : List Rn) (pre : List Int), ∃ m gs, grps t cur pre = (cur ++ m) :: gs
  | [], cur, pre => ⟨[], [], by simp [grps]⟩
  | r :: t, cur, pre => by
    unfold grps
    split
    · obtain ⟨m, gs, h⟩ := grps_first t (cur ++ [r]) (r.f2 :: pre)
      exact ⟨r :: m, gs, by rw [h]; simp⟩
    · exact ⟨[], _, by rw [List.append_nil]⟩
theorem flat_nil : ∀ gs : List (List Rn), (∀ g ∈ gs, g ≠ []) → gs.flatten = [] → gs = []
  | [], _, _ => rfl
  | g :: gs, h, e => by
    rw [List.flatten_cons, List.append_eq_nil_iff] at e
    exact absurd e.1 (h g (by simp))
theorem grps_take : ∀ (t u cur : List Rn) (pre : List Int) (gs rest : List (List Rn)), cur ≠ [] → grps (t ++ u) cur pre = gs ++ rest → gs.flatten = cur ++ t → grps t cur pre = gs
  | [], u, cur, pre, gs, rest, hc, h, hf => by
    have hne := grps_ne ([] ++ u) cur pre hc
    rw [h] at hne
    obtain ⟨m, gs', h1⟩ := grps_first ([] ++ u) cur pre
    rw [h1] at h
    rw [List.append_nil] at hf
    cases gs with
    | nil => exact absurd hf.symm hc
    | cons g gs =>
      have h2 : cur ++ m = g := by rw [List.cons_append] at h; exact (List.cons.inj h).1
      rw [List.flatten_cons, ← h2, List.append_assoc] at hf
      have h3 : m ++ gs.flatten = [] := by
        have := congrArg List.length hf
        rw [List.length_append] at this
        exact List.eq_nil_of_length_eq_zero (by omega)
      rw [List.append_eq_nil_iff] at h3
      have h4 := flat_nil gs (fun x hx => hne x (by simp [hx])) h3.2
      rw [h4, ← h2, h3.1, List.append_nil]
      rfl
  | r :: t, u, cur, pre, gs, rest, hc, h, hf => by
    rw [List.cons_append] at h
    unfold grps at h ⊢
    by_cases hj : Jb pre r.f2 = true
    · rw [if_pos hj] at h ⊢
      exact grps_take t u (cur ++ [r]) _ gs rest (by simp) h (by rw [hf]; simp)
    · rw [if_neg hj] at h ⊢
      cases gs with
      | nil =>
        have := congrArg List.length hf
        simp at this
      | cons g gs =>
        rw [List.cons_append] at h
        obtain ⟨h1, h2⟩ := List.cons.inj h
        rw [List.flatten_cons, ← h1] at hf
        have h3 : gs.flatten = [r] ++ t := List.append_cancel_left hf
        rw [grps_take t u [r] _ gs rest (by simp) h2 h3, h1]
theorem grp_take (l : List Rn) (k : Nat) : grp ((grp l).take k).flatten = (grp l).take k := by
  cases l with
  | nil => simp [grp]
  | cons r t =>
    cases k with
    | zero => rfl
    | succ k =>
      have hg : grp (r :: t) = grps t [r] [r.f2] := rfl
      rw [hg]
      obtain ⟨m, gs, h1⟩ := grps_first t [r] [r.f2]
      have hflat := grps_flat t [r] [r.f2]
      have hsplit : ((grps t [r] [r.f2]).take (k + 1)).flatten ++ ((grps t [r] [r.f2]).drop (k + 1)).flatten = [r] ++ t := by
        rw [← List.flatten_append, List.take_append_drop, hflat]
      have hh : ∃ t1, ((grps t [r] [r.f2]).take (k + 1)).flatten = r :: t1 := ⟨m ++ (gs.take k).flatten, by rw [h1]; simp⟩
      obtain ⟨t1, ht1⟩ := hh
      rw [ht1] at hsplit ⊢
      have hsp2 : t1 ++ ((grps t [r] [r.f2]).drop (k + 1)).flatten = t := by
        rw [List.cons_append] at hsplit
        exact (List.cons.inj hsplit).2
      show grps t1 [r] [r.f2] = _
      refine grps_take t1 ((grps t [r] [r.f2]).drop (k + 1)).flatten [r] [r.f2] _ ((grps t [r] [r.f2]).drop (k + 1)) (by simp) ?_ (by rw [ht1]; rfl)
      rw [hsp2, List.take_append_drop]
/-! clusters that are shifted -/
def shift (c : Cl) (m : Int) : Cl := ⟨c.f0, c.f1, wrap64 (c.f2 + m), wrap64 (c.f3 + m), c.f4, c.f5⟩
theorem mks_get : ∀ (gs : List (List Rn)) (n m i : Nat), i < gs.length → n + m + gs.flatten.length < 1000000 → shift ((mks gs n).getD i z39) (m : Int) = (mks gs (n + m)).getD i z39
  | [], n, m, i, hi, _ => by simp at hi
  | g :: gs, n, m, 0, hi, hb => by
    rw [List.flatten_cons, List.length_append] at hb
    show shift (mkC g n) m = mkC g (n + m)
    unfold shift mkC
    simp only
    rw [w64 (by omega) (by omega), w64 (by omega) (by omega)]
    congr 1
    · omega
  | g :: gs, n, m, i + 1, hi, hb => by
    rw [List.flatten_cons, List.length_append] at hb
    have ih := mks_get gs (n + g.length) m i (by simp at hi; omega) (by omega)
    rw [show n + g.length + m = n + m + g.length by omega] at ih
    exact ih
theorem mks_app : ∀ (a b : List (List Rn)) (n : Nat), mks (a ++ b) n = mks a n ++ mks b (n + a.flatten.length)
  | [], b, n => rfl
  | g :: a, b, n => by
    rw [List.cons_append, List.flatten_cons, List.length_append]
    show mkC g n :: mks (a ++ b) (n + g.length) = mkC g n :: mks a (n + g.length) ++ mks b _
    rw [mks_app a b (n + g.length), List.cons_append, Nat.add_assoc]
/-! the place of a cut -/
theorem chain_lo : ∀ (xs : List Rn) (p e : Int), Chain p xs e → ∀ y ∈ xs, p ≤ y.f0 ∧ y.f0 < e
  | [], p, e, h, y, hy => by simp at hy
  | x :: xs, p, e, h, y, hy => by
    obtain ⟨h1, h2, h3, h4, h5, h6⟩ := h
    have h7 := chain_le _ _ _ h6
    rcases List.mem_cons.1 hy with rfl | hy
    · omega
    · have := chain_lo xs _ _ h6 y hy
      omega
theorem filter_cut (a b : List Rn) (p q e : Int) (ha : Chain p a q) (hb : Chain q b e) :
    (a ++ b).filter (fun r => decide (r.f0 < q)) = a ∧ (a ++ b).filter (fun r => !decide (r.f0 < q)) = b := by
  have h1 : ∀ r ∈ a, decide (r.f0 < q) = true := fun r hr => decide_eq_true (chain_lo a p q ha r hr).2
  have h2 : ∀ r ∈ b, decide (r.f0 < q) = false := fun r hr => decide_eq_false (by have := (chain_lo b q e hb r hr).1; omega)
  rw [List.filter_append, List.filter_append]
  constructor
  · rw [List.filter_eq_self.2 h1, List.filter_eq_nil_iff.2 (fun r hr => by rw [h2 r hr]; decide), List.append_nil]
  · rw [List.filter_eq_nil_iff.2 (fun r hr => by rw [h1 r hr]; decide), List.filter_eq_self.2 (fun r hr => by rw [h2 r hr]; rfl), List.nil_append]
/-- The cut ahead of cluster k. -/
theorem cut_all (l : List Rn) (e : Int) (hl : Chain 0 l e) (k : Nat) (hk : k < (grp l).length) :
    let q := ((cls l).getD k z39).f0
    l.filter (fun r => decide (r.f0 < q)) = ((grp l).take k).flatten ∧ l.filter (fun r => !decide (r.f0 < q)) = ((grp l).drop k).flatten := by
  intro q
  have hs : ((grp l).take k).flatten ++ ((grp l).drop k).flatten = l := by rw [← List.flatten_append, List.take_append_drop, grp_flat]
  rw [← hs] at hl
  obtain ⟨m, h1, h2⟩ := chain_app _ _ _ _ hl
  have hq : q = m := by
    have hd1 : (grp l).drop k = (grp l)[k] :: (grp l).drop (k + 1) := List.drop_eq_getElem_cons hk
    have hc : cls l = mks ((grp l).take k) 0 ++ mks ((grp l).drop k) (0 + ((grp l).take k).flatten.length) := by
      unfold cls
      rw [← mks_app, List.take_append_drop]
    have hlen : (mks ((grp l).take k) 0).length = k := by rw [mks_len, List.length_take]; omega
    have hg : (cls l).getD k z39 = mkC (grp l)[k] (0 + ((grp l).take k).flatten.length) := by
      rw [hc, hd1, List.getD_eq_getElem?_getD, List.getElem?_append_right (by omega), hlen, Nat.sub_self]
      rfl
    show ((cls l).getD k z39).f0 = m
    rw [hg]
    show (hd (grp l)[k]).f0 = m
    rw [hd1, List.flatten_cons] at h2
    have hne := grp_ne l (grp l)[k] (List.getElem_mem hk)
    cases hgk : (grp l)[k] with
    | nil => exact absurd hgk hne
    | cons x g =>
      rw [hgk] at h2
      exact h2.1
  rw [hq]
  have := filter_cut _ _ _ _ _ h1 h2
  rw [hs] at this
  exact this
end Go.Proofs.Ytgbkfjdkejjmpaa.PC06
