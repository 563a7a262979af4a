/- The runs of levels: what the program's runs are, told by the places at which they begin. Conditions: none. -/
import Derived.Test.YtdieknpikdepgaaPC12x3
import Derived.Test.YtdieknpikdepgaaHT12
namespace Go.Proofs.Ytdieknpikdepgaa.PC12
open Go.RowKit Go.Proofs.YtdieknpikdepgaaW.PrintWords Go.Proofs.YtdieknpikdepgaaW.PrintLast Go.Proofs.YtdieknpikdepgaaW.PrintMore Go.Proofs.YtdieknpikdepgaaH
set_option linter.unusedVariables false
set_option linter.unusedSimpArgs false

/-- Places that are kept, from one up to another one. -/
def KL (V : Nat → Int) (a b : Nat) : List Nat := (List.range' a (b - a)).filter fun x => decide (0 ≤ V x)
theorem KL_self (V : Nat → Int) (a : Nat) : KL V a a = [] := by simp [KL]
theorem KL_succ (V : Nat → Int) {a b : Nat} (h : a ≤ b) : KL V a (b + 1) = if 0 ≤ V b then KL V a b ++ [b] else KL V a b := by
  unfold KL
  rw [show b + 1 - a = (b - a) + 1 by omega, List.range'_1_concat, List.filter_append, show a + (b - a) = b by omega]
  by_cases hb : 0 ≤ V b
  · rw [if_pos hb]; simp [hb]
  · rw [if_neg hb]; simp [hb]
theorem KL_cons (V : Nat → Int) {a b : Nat} (h : a < b) : KL V a b = if 0 ≤ V a then a :: KL V (a + 1) b else KL V (a + 1) b := by
  unfold KL
  rw [show b - a = (b - (a + 1)) + 1 by omega, List.range'_succ, List.filter_cons]
  by_cases hb : 0 ≤ V a <;> simp [hb]
theorem KL_split (V : Nat → Int) {a b c : Nat} (h1 : a ≤ b) (h2 : b ≤ c) : KL V a c = KL V a b ++ KL V b c := by
  unfold KL
  rw [← List.filter_append]
  congr 1
  have := List.range'_append_1 (s := a) (m := b - a) (n := c - b)
  rw [show a + (b - a) = b by omega, show (b - a) + (c - b) = c - a by omega] at this
  exact this.symm
theorem mem_KL {V : Nat → Int} {a b x : Nat} : x ∈ KL V a b ↔ a ≤ x ∧ x < b ∧ 0 ≤ V x := by
  unfold KL
  rw [List.mem_filter, List.mem_range'_1]
  simp only [decide_eq_true_eq]
  constructor
  · rintro ⟨⟨h1, h2⟩, h3⟩; exact ⟨h1, by omega, h3⟩
  · rintro ⟨h1, h2, h3⟩; exact ⟨⟨h1, by omega⟩, h3⟩
theorem KL_up (V : Nat → Int) (a b : Nat) : (KL V a b).Pairwise (· < ·) := by
  unfold KL
  exact List.Pairwise.filter _ (List.pairwise_lt_range' (s := a) (n := b - a))
theorem kp_eq (V : Nat → Int) : ∀ m a, seqs_runs.kp a ((List.range' a m).map V) = (KL V a (a + m)).map fun i : Nat => ((i : Int), V i) := by
  intro m
  induction m with
  | zero => intro a; simp [KL, seqs_runs.kp]
  | succ m ih =>
    intro a
    rw [List.range'_succ, List.map_cons]
    unfold seqs_runs.kp
    rw [ih (a + 1), KL_cons V (show a < a + (m + 1) by omega), show a + 1 + m = a + (m + 1) by omega]
    by_cases h : 0 ≤ V a
    · rw [if_pos h, if_pos h]; rfl
    · rw [if_neg h, if_neg h]
theorem snoc_or {α : Type} (L : List α) : L = [] ∨ ∃ X z, L = X ++ [z] := by
  rcases List.eq_nil_or_concat L with h | ⟨X, z, h⟩
  · exact .inl h
  · exact .inr ⟨X, z, by rw [h, List.concat_eq_append]⟩
/-- What is told of a run: from where, up to where, its last place. -/
structure Rf (V : Nat → Int) (c d t : Nat) (r : S41) : Prop where
  k : 0 ≤ V c
  b : bgn V c = true
  f0 : r.f0 = V c
  f1 : r.f1 = (c : Int)
  f2 : r.f2 = (t : Int)
  f3 : r.f3 = (KL V c d).map fun x : Nat => (x : Int)
  lt : c < d
  pr : prv V d = some t
  lv : ∀ x, c ≤ x → x < d → 0 ≤ V x → V x = V c
/-- The runs of what is ahead of a place. -/
inductive Rn (V : Nat → Int) : Nat → List S41 → Prop
  | nil (c : Nat) (h : ∀ x, x < c → V x < 0) : Rn V c []
  | snoc {c d t : Nat} {R : List S41} {r : S41} (h : Rn V c R) (f : Rf V c d t r) : Rn V d (R ++ [r])
theorem Rn.last {V : Nat → Int} {d : Nat} {X : List S41} {z : S41} (h : Rn V d (X ++ [z])) : ∃ c t, Rn V c X ∧ Rf V c d t z := by
  generalize hY : X ++ [z] = Y at h
  cases h with
  | nil c h => simp at hY
  | snoc h f =>
    have := List.append_inj' hY rfl
    obtain ⟨rfl, h2⟩ := this
    obtain rfl := List.singleton_inj.1 h2
    exact ⟨_, _, h, f⟩
theorem Rn.empty {V : Nat → Int} {d : Nat} (h : Rn V d []) : ∀ x, x < d → V x < 0 := by
  generalize hY : ([] : List S41) = Y at h
  cases h with
  | nil c h => exact h
  | snoc h f => simp at hY
theorem Rf.t_in {V : Nat → Int} {c d t : Nat} {r : S41} (h : Rf V c d t r) : c ≤ t ∧ t < d ∧ 0 ≤ V t ∧ V t = V c := by
  have h1 := prv_some.1 h.pr
  have h2 : c ≤ t := by
    by_cases hc : c ≤ t
    · exact hc
    · have := h1.2.2 c (by omega) h.lt
      have := h.k
      omega
  exact ⟨h2, h1.1, h1.2.1, h.lv t h2 h1.1 h1.2.1⟩
/-- The last run is that of the kept place ahead. -/
theorem Rn.ahead {V : Nat → Int} {d : Nat} {R : List S41} (h : Rn V d R) : match R.getLast? with | none => prv V d = none | some r => ∃ t : Nat, prv V d = some t ∧ r.f0 = V t := by
  cases h with
  | nil c h => exact prv_none.2 h
  | snoc h f =>
    rw [List.getLast?_append]
    exact ⟨_, f.pr, f.f0.trans f.t_in.2.2.2.symm⟩
theorem Rn.same {V : Nat → Int} {c : Nat} {R : List S41} (h : Rn V c R) (hc : V c < 0) : Rn V (c + 1) R := by
  cases h with
  | nil c h =>
    refine .nil _ fun x hx => ?_
    by_cases e : x = c
    · subst e; exact hc
    · exact h x (by omega)
  | @snoc a _ t R r h f =>
    refine .snoc h (t := t) ⟨f.k, f.b, f.f0, f.f1, f.f2, ?_, by have := f.lt; omega, ?_, fun x h1 h2 h3 => ?_⟩
    · rw [KL_succ V (by have := f.lt; omega), if_neg (by omega)]
      exact f.f3
    · rw [prv, if_neg (by omega)]
      exact f.pr
    · by_cases e : x = c
      · subst e; omega
      · exact f.lv x h1 (by omega) h3
theorem Rn.new {V : Nat → Int} {c : Nat} {R : List S41} (h : Rn V c R) (hc : 0 ≤ V c) (hb : bgn V c = true) : Rn V (c + 1) (R ++ [⟨V c, (c : Int), (c : Int), [(c : Int)]⟩]) := by
  refine .snoc h (t := c) ⟨hc, hb, rfl, rfl, rfl, ?_, by omega, ?_, fun x h1 h2 h3 => ?_⟩
  · rw [KL_succ V (Nat.le_refl _), if_pos hc, KL_self]
    rfl
  · rw [prv, if_pos hc]
  · obtain rfl : x = c := by omega
    rfl
theorem Rn.more {V : Nat → Int} {c : Nat} {X : List S41} {z : S41} (h : Rn V c (X ++ [z])) (hc : 0 ≤ V c) (hz : z.f0 = V c) : Rn V (c + 1) (X ++ [⟨z.f0, z.f1, (c : Int), z.f3 ++ [(c : Int)]⟩]) := by
  obtain ⟨a, t, h1, f⟩ := h.last
  refine .snoc h1 (t := c) ⟨f.k, f.b, f.f0, f.f1, rfl, ?_, by have := f.lt; omega, ?_, fun x h2 h3 h4 => ?_⟩
  · rw [KL_succ V (by have := f.lt; omega), if_pos hc, List.map_append, ← f.f3]
    rfl
  · rw [prv, if_pos hc]
  · by_cases e : x = c
    · subst e
      rw [← hz, f.f0]
    · exact f.lv x h2 (by omega) h4
theorem all_Rn (V : Nat → Int) : ∀ c, Rn V c (seqs_runs.all ((KL V 0 c).map fun i : Nat => ((i : Int), V i))) := by
  intro c
  induction c with
  | zero => exact .nil 0 (fun x hx => by omega)
  | succ c ih =>
    rw [KL_succ V (Nat.zero_le _)]
    by_cases hc : 0 ≤ V c
    · rw [if_pos hc, List.map_append, List.map_cons, List.map_nil, seqs_runs.all_snoc]
      generalize seqs_runs.all ((KL V 0 c).map fun i : Nat => ((i : Int), V i)) = R at ih ⊢
      unfold seqs_runs.add
      rcases snoc_or R with rfl | ⟨X, z, rfl⟩
      · rw [if_pos (.inl rfl)]
        refine ih.new hc ?_
        unfold bgn
        rw [prv_none.2 ih.empty]
      · have hg : (X ++ [z]).getD ((X ++ [z]).length - 1) z41 = z := by
          rw [List.getD_eq_getElem?_getD, List.length_append, List.length_singleton, Nat.add_sub_cancel, List.getElem?_append_right (Nat.le_refl _), Nat.sub_self]
          rfl
        have hs : ∀ y, (X ++ [z]).set ((X ++ [z]).length - 1) y = X ++ [y] := fun y => by
          rw [List.length_append, List.length_singleton, Nat.add_sub_cancel, List.set_append_right _ _ (Nat.le_refl _), Nat.sub_self]
          rfl
        obtain ⟨a, t, h1, f⟩ := ih.last
        dsimp only
        rw [hg, hs]
        by_cases hz : z.f0 = V c
        · rw [if_neg (fun h => h.elim (fun h => by simp at h) (fun h => h hz))]
          exact ih.more hc hz
        · rw [if_pos (.inr hz)]
          refine ih.new hc ?_
          unfold bgn
          rw [f.pr]
          have := f.t_in.2.2.2
          rw [← f.f0] at this
          simp only [decide_eq_true_eq]
          rw [this]
          exact hz
    · rw [if_neg hc]
      exact ih.same (by omega)
theorem runs_Rn (V : Nat → Int) (n : Nat) : Rn V n (seqs_runs.all (seqs_runs.kp 0 ((List.range n).map V))) := by
  have := all_Rn V n
  rw [List.range_eq_range', kp_eq, Nat.zero_add]
  exact this
/-- What stands behind a run. -/
def Nb (V : Nat → Int) (n d : Nat) : List S41 → Prop
  | [] => d = n
  | r2 :: _ => r2.f1 = (d : Int) ∧ r2.f0 = V d ∧ 0 ≤ V d ∧ bgn V d = true ∧ d < n
/-- A run within the runs. -/
theorem Rn.split {V : Nat → Int} (A : List S41) (r : S41) : ∀ (m : Nat) (B : List S41) (n : Nat), B.length = m → Rn V n (A ++ r :: B) → ∃ c d t, Rn V c A ∧ Rf V c d t r ∧ d ≤ n ∧ Nb V n d B := by
  intro m
  induction m with
  | zero =>
    intro B n hB h
    obtain rfl := List.length_eq_zero_iff.1 hB
    obtain ⟨c, t, h1, f⟩ := h.last
    exact ⟨c, n, t, h1, f, Nat.le_refl _, rfl⟩
  | succ m ih =>
    intro B n hB h
    rcases snoc_or B with rfl | ⟨B', z, rfl⟩
    · simp at hB
    · have e : A ++ r :: (B' ++ [z]) = (A ++ r :: B') ++ [z] := by simp
      rw [e] at h
      obtain ⟨c', t', h1, f⟩ := h.last
      obtain ⟨c, d, t, h2, h3, h4, h5⟩ := ih B' c' (by simpa using hB) h1
      have := f.lt
      refine ⟨c, d, t, h2, h3, by omega, ?_⟩
      cases B' with
      | nil =>
        have h5' : d = c' := h5
        subst h5'
        exact ⟨f.f1, f.f0, f.k, f.b, f.lt⟩
      | cons r2 B2 => exact ⟨h5.1, h5.2.1, h5.2.2.1, h5.2.2.2.1, by have := h5.2.2.2.2; omega⟩
/-- Where a run begins there is one, and each begins where one does. -/
theorem Rn.has {V : Nat → Int} {n : Nat} {R : List S41} (h : Rn V n R) : ∀ p, p < n → 0 ≤ V p → bgn V p = true → ∃ r ∈ R, r.f1 = (p : Int) := by
  induction h with
  | nil c h => intro p h1 h2 _; have := h p h1; omega
  | @snoc c d t R r h f ih =>
    intro p h1 h2 h3
    by_cases hp : p < c
    · obtain ⟨r', h4, h5⟩ := ih p hp h2 h3
      exact ⟨r', List.mem_append_left _ h4, h5⟩
    · by_cases e : p = c
      · subst e
        exact ⟨r, by simp, f.f1⟩
      · exfalso
        have hv := f.lv p (by omega) h1 h2
        cases hq : prv V p with
        | none => have := prv_none.1 hq c (by omega); have := f.k; omega
        | some q =>
          have h6 := prv_some.1 hq
          have h7 : c ≤ q := by
            by_cases hc : c ≤ q
            · exact hc
            · have := h6.2.2 c (by omega) (by omega)
              have := f.k
              omega
          have h8 := f.lv q h7 (by omega) h6.2.1
          have : bgn V p = false := bgn_false.2 ⟨q, hq, by rw [h8, hv]⟩
          rw [this] at h3
          cases h3
theorem Rn.each {V : Nat → Int} {n : Nat} {R : List S41} (h : Rn V n R) : ∀ r ∈ R, ∃ p : Nat, r.f1 = (p : Int) ∧ p < n ∧ 0 ≤ V p ∧ bgn V p = true := by
  induction h with
  | nil c h => intro r hr; cases hr
  | @snoc c d t R r h f ih =>
    intro r' hr
    have := f.lt
    rcases List.mem_append.1 hr with hr | hr
    · obtain ⟨p, h1, h2, h3, h4⟩ := ih r' hr
      exact ⟨p, h1, by omega, h3, h4⟩
    · obtain rfl := List.mem_singleton.1 hr
      exact ⟨c, f.f1, f.lt, f.k, f.b⟩
theorem Rn.len {V : Nat → Int} {n : Nat} {R : List S41} (h : Rn V n R) : R.length ≤ n := by
  induction h with
  | nil c h => exact Nat.zero_le _
  | snoc h f ih => have := f.lt; simp; omega
end Go.Proofs.Ytdieknpikdepgaa.PC12
