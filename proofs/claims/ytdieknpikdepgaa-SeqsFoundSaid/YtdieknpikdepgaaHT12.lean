/- Kept places: the one ahead of a place and behind it, where a run begins, what goes on where, and the first place of each chain. Conditions: none. -/
import Derived.Test.YtdieknpikdepgaaHIso
import Derived.Test.YtdieknpikdepgaaPC12x0
namespace Go.Proofs.Ytdieknpikdepgaa.PC12
open Go.RowKit Go.Proofs.YtdieknpikdepgaaW.PrintWords Go.Proofs.YtdieknpikdepgaaW.PrintLast Go.Proofs.YtdieknpikdepgaaW.PrintMore Go.Proofs.YtdieknpikdepgaaH
set_option linter.unusedVariables false
set_option linter.unusedSimpArgs false

/-- The kept place ahead. -/
def prv (V : Nat → Int) : Nat → Option Nat
  | 0 => none
  | c + 1 => if 0 ≤ V c then some c else prv V c
theorem prv_some {V : Nat → Int} {q : Nat} : ∀ {c : Nat}, prv V c = some q ↔ q < c ∧ 0 ≤ V q ∧ ∀ x, q < x → x < c → V x < 0
  | 0 => by simp [prv]
  | c + 1 => by
    have ih := prv_some (V := V) (q := q) (c := c)
    unfold prv
    by_cases h : 0 ≤ V c
    · rw [if_pos h]
      constructor
      · intro e
        obtain rfl := Option.some.inj e
        exact ⟨by omega, h, fun x h1 h2 => by omega⟩
      · rintro ⟨h1, h2, h3⟩
        by_cases hq : q = c
        · rw [hq]
        · have := h3 c (by omega) (by omega)
          omega
    · rw [if_neg h, ih]
      constructor
      · rintro ⟨h1, h2, h3⟩
        exact ⟨by omega, h2, fun x h4 h5 => by
          by_cases hx : x = c
          · subst hx; omega
          · exact h3 x h4 (by omega)⟩
      · rintro ⟨h1, h2, h3⟩
        have hq : q ≠ c := fun e => by subst e; exact h h2
        exact ⟨by omega, h2, fun x h4 h5 => h3 x h4 (by omega)⟩
theorem prv_none {V : Nat → Int} : ∀ {c : Nat}, prv V c = none ↔ ∀ x, x < c → V x < 0
  | 0 => by simp [prv]
  | c + 1 => by
    have ih := prv_none (V := V) (c := c)
    unfold prv
    by_cases h : 0 ≤ V c
    · rw [if_pos h]
      exact ⟨fun e => (by cases e), fun h1 => by have := h1 c (by omega); omega⟩
    · rw [if_neg h, ih]
      constructor
      · intro h1 x hx
        by_cases e : x = c
        · subst e; omega
        · exact h1 x (by omega)
      · exact fun h1 x hx => h1 x (by omega)
/-- The kept place behind. -/
def nup (V : Nat → Int) : Nat → Nat → Option Nat
  | 0, _ => none
  | m + 1, c => if 0 ≤ V c then some c else nup V m (c + 1)
def nx (V : Nat → Int) (n c : Nat) : Option Nat := nup V (n - c) c
theorem nup_some {V : Nat → Int} {q : Nat} : ∀ {m c : Nat}, nup V m c = some q ↔ c ≤ q ∧ q < c + m ∧ 0 ≤ V q ∧ ∀ x, c ≤ x → x < q → V x < 0
  | 0, c => by
    constructor
    · intro h; cases h
    · rintro ⟨h1, h2, _⟩; omega
  | m + 1, c => by
    have ih := nup_some (V := V) (q := q) (m := m) (c := c + 1)
    unfold nup
    by_cases h : 0 ≤ V c
    · rw [if_pos h]
      constructor
      · intro e
        obtain rfl := Option.some.inj e
        exact ⟨by omega, by omega, h, fun x h1 h2 => by omega⟩
      · rintro ⟨h1, h2, h3, h4⟩
        by_cases hq : q = c
        · rw [hq]
        · have := h4 c (by omega) (by omega)
          omega
    · rw [if_neg h, ih]
      constructor
      · rintro ⟨h1, h2, h3, h4⟩
        exact ⟨by omega, by omega, h3, fun x h5 h6 => by
          by_cases hx : x = c
          · subst hx; omega
          · exact h4 x (by omega) h6⟩
      · rintro ⟨h1, h2, h3, h4⟩
        have hq : q ≠ c := fun e => by subst e; exact h h3
        exact ⟨by omega, by omega, h3, fun x h5 h6 => h4 x (by omega) h6⟩
theorem nup_none {V : Nat → Int} : ∀ {m c : Nat}, nup V m c = none ↔ ∀ x, c ≤ x → x < c + m → V x < 0
  | 0, c => ⟨fun _ x h1 h2 => by omega, fun _ => rfl⟩
  | m + 1, c => by
    have ih := nup_none (V := V) (m := m) (c := c + 1)
    unfold nup
    by_cases h : 0 ≤ V c
    · rw [if_pos h]
      exact ⟨fun e => (by cases e), fun h1 => by have := h1 c (by omega) (by omega); omega⟩
    · rw [if_neg h, ih]
      constructor
      · intro h1 x h2 h3
        by_cases e : x = c
        · subst e; omega
        · exact h1 x (by omega) (by omega)
      · exact fun h1 x h2 h3 => h1 x (by omega) (by omega)
theorem nx_some {V : Nat → Int} {n c q : Nat} : nx V n c = some q ↔ c ≤ q ∧ q < n ∧ 0 ≤ V q ∧ ∀ x, c ≤ x → x < q → V x < 0 := by
  unfold nx
  rw [nup_some]
  constructor
  · rintro ⟨h1, h2, h3⟩; exact ⟨h1, by omega, h3⟩
  · rintro ⟨h1, h2, h3⟩; exact ⟨h1, by omega, h3⟩
theorem nx_none {V : Nat → Int} {n c : Nat} : nx V n c = none ↔ ∀ x, c ≤ x → x < n → V x < 0 := by
  unfold nx
  rw [nup_none]
  exact ⟨fun h x h1 h2 => h x h1 (by omega), fun h x h1 h2 => h x h1 (by omega)⟩
/-- A run begins. -/
def bgn (V : Nat → Int) (p : Nat) : Bool := match prv V p with | none => true | some q => decide (V q ≠ V p)
/-- A run ends. -/
def lst (V : Nat → Int) (n t : Nat) : Bool := match nx V n (t + 1) with | none => true | some q => decide (V q ≠ V t)
theorem bgn_false {V : Nat → Int} {p : Nat} : bgn V p = false ↔ ∃ q, prv V p = some q ∧ V q = V p := by
  unfold bgn
  cases prv V p with
  | none => simp
  | some q => simp
theorem lst_false {V : Nat → Int} {n t : Nat} : lst V n t = false ↔ ∃ q, nx V n (t + 1) = some q ∧ V q = V t := by
  unfold lst
  cases nx V n (t + 1) with
  | none => simp
  | some q => simp
/-- The place ahead in its sequence. -/
def pred (V : Nat → Int) (l : List Int) (p : Nat) : Option Nat :=
  if bgn V p = true then (if at' l p = 22 then (match (ope l p).head? with | some k => if lst V l.length k = true then some k else none | none => none) else none) else prv V p
/-- The place behind in its sequence. -/
def nxt (V : Nat → Int) (l : List Int) (q : Nat) : Option Nat :=
  if lst V l.length q = true then (if ini (at' l q) = true ∧ endOf l q < l.length ∧ bgn V (endOf l q) = true then some (endOf l q) else none) else nx V l.length (q + 1)
theorem end_22 (l : List Int) (k : Nat) (h : endOf l k < l.length) : at' l (endOf l k) = 22 := by
  unfold endOf at h ⊢
  cases hc : clo (l.drop (k + 1)) 0 with
  | none => rw [hc] at h; simp at h
  | some e =>
    have := clo_get _ _ _ hc
    rw [List.getElem?_drop] at this
    show at' l (k + 1 + e) = 22
    unfold at'
    rw [List.getD_eq_getElem?_getD, this]
    rfl
/-- What is asked of the levels: initiators and PDIs are kept, a pair's levels are one. -/
structure Lv (V : Nat → Int) (l : List Int) : Prop where
  kini : ∀ k, k < l.length → ini (at' l k) = true → 0 ≤ V k
  kpdi : ∀ k, k < l.length → at' l k = 22 → 0 ≤ V k
  kpair : ∀ k i, k < i → i < l.length → ini (at' l k) = true → at' l i = 22 → (ope l i).head? = some k → V i = V k
theorem pred_lt {V : Nat → Int} {l : List Int} (H : Lv V l) {p q : Nat} (hp : p < l.length) (h : pred V l p = some q) : q < p ∧ 0 ≤ V q ∧ (0 ≤ V p → V p = V q) := by
  unfold pred at h
  by_cases hb : bgn V p = true
  · rw [if_pos hb] at h
    by_cases h22 : at' l p = 22
    · rw [if_pos h22] at h
      cases ho : (ope l p).head? with
      | none => rw [ho] at h; cases h
      | some k =>
        rw [ho] at h
        dsimp only at h
        split at h
        · obtain rfl := Option.some.inj h
          have hm : k ∈ ope l p := List.mem_of_head? ho
          have h1 := ope_lt l p (by omega) k hm
          have h2 := ope_ini l p (by omega) k hm
          exact ⟨h1, H.kini k (by omega) h2, fun _ => H.kpair k p h1 hp h2 h22 ho⟩
        · cases h
    · rw [if_neg h22] at h; cases h
  · rw [if_neg hb] at h
    have hb' : bgn V p = false := by simpa using hb
    obtain ⟨q', h1, h2⟩ := bgn_false.1 hb'
    rw [h] at h1
    obtain rfl := Option.some.inj h1
    have := prv_some.1 h
    exact ⟨this.1, this.2.1, fun _ => h2.symm⟩
theorem nxt_iff {V : Nat → Int} {l : List Int} (H : Lv V l) {p q : Nat} (hq : q < l.length) (hq0 : 0 ≤ V q) : nxt V l q = some p ↔ p < l.length ∧ 0 ≤ V p ∧ pred V l p = some q := by
  constructor
  · intro h
    unfold nxt at h
    by_cases hl : lst V l.length q = true
    · rw [if_pos hl] at h
      by_cases hc : ini (at' l q) = true ∧ endOf l q < l.length ∧ bgn V (endOf l q) = true
      · rw [if_pos hc] at h
        obtain rfl := Option.some.inj h
        have h22 := end_22 l q hc.2.1
        have hgt := endOf_gt l q hq
        have ho := (end_iff l (endOf l q) q hc.2.1 hgt h22 hc.1).1 rfl
        refine ⟨hc.2.1, H.kpdi _ hc.2.1 h22, ?_⟩
        unfold pred
        rw [if_pos hc.2.2, if_pos h22, ho]
        dsimp only
        rw [if_pos hl]
      · rw [if_neg hc] at h; cases h
    · rw [if_neg hl] at h
      have hl' : lst V l.length q = false := by simpa using hl
      obtain ⟨p', h1, h2⟩ := lst_false.1 hl'
      rw [h] at h1
      obtain rfl := Option.some.inj h1
      have h3 := nx_some.1 h
      have hp : prv V p = some q := prv_some.2 ⟨by omega, hq0, fun x h4 h5 => h3.2.2.2 x (by omega) h5⟩
      have hb : bgn V p = false := bgn_false.2 ⟨q, hp, h2.symm⟩
      refine ⟨h3.2.1, h3.2.2.1, ?_⟩
      unfold pred
      rw [hb, if_neg (by decide)]
      exact hp
  · rintro ⟨hp, hp0, h⟩
    have hlt := (pred_lt H hp h).1
    unfold pred at h
    unfold nxt
    by_cases hb : bgn V p = true
    · rw [if_pos hb] at h
      by_cases h22 : at' l p = 22
      · rw [if_pos h22] at h
        cases ho : (ope l p).head? with
        | none => rw [ho] at h; cases h
        | some k =>
          rw [ho] at h
          dsimp only at h
          split at h
          · rename_i hl
            obtain rfl := Option.some.inj h
            have hm : k ∈ ope l p := List.mem_of_head? ho
            have h2 := ope_ini l p (by omega) k hm
            have he := (end_iff l p k hp hlt h22 h2).2 ho
            rw [if_pos hl, if_pos ⟨h2, by omega, by rw [he]; exact hb⟩, he]
          · cases h
      · rw [if_neg h22] at h; cases h
    · rw [if_neg hb] at h
      have hb' : bgn V p = false := by simpa using hb
      obtain ⟨q', h1, h2⟩ := bgn_false.1 hb'
      rw [h] at h1
      obtain rfl := Option.some.inj h1
      have h3 := prv_some.1 h
      have hn : nx V l.length (q + 1) = some p := nx_some.2 ⟨by omega, hp, hp0, fun x h4 h5 => h3.2.2 x (by omega) h5⟩
      have hl : lst V l.length q = false := lst_false.2 ⟨p, hn, h2.symm⟩
      rw [hl, if_neg (by decide)]
      exact hn
/-- The first place of the sequence. -/
def root (V : Nat → Int) (l : List Int) (p : Nat) : Nat :=
  match pred V l p with
  | none => p
  | some q => if q < p then root V l q else p
termination_by p
theorem root_none {V : Nat → Int} {l : List Int} {p : Nat} (h : pred V l p = none) : root V l p = p := by
  rw [root, h]
theorem root_some {V : Nat → Int} {l : List Int} {p q : Nat} (h : pred V l p = some q) (hq : q < p) : root V l p = root V l q := by
  rw [root, h]
  dsimp only
  rw [if_pos hq]
theorem root_le (V : Nat → Int) (l : List Int) : ∀ m p, p ≤ m → root V l p ≤ p := by
  intro m
  induction m with
  | zero =>
    intro p hp
    rw [root]
    split
    · exact Nat.le_refl _
    · rw [if_neg (by omega)]; exact Nat.le_refl _
  | succ m ih =>
    intro p hp
    rw [root]
    split
    · exact Nat.le_refl _
    · split
      · exact Nat.le_trans (ih _ (by omega)) (by omega)
      · exact Nat.le_refl _
theorem root_made {V : Nat → Int} {l : List Int} (H : Lv V l) : ∀ m p, p ≤ m → p < l.length → 0 ≤ V p → pred V l (root V l p) = none ∧ 0 ≤ V (root V l p) ∧ V (root V l p) = V p ∧ root V l p ≤ p := by
  intro m
  induction m with
  | zero =>
    intro p hm hp hp0
    obtain rfl : p = 0 := by omega
    cases h : pred V l 0 with
    | none => rw [root_none h]; exact ⟨h, hp0, rfl, Nat.le_refl _⟩
    | some q => exact absurd (pred_lt H hp h).1 (by omega)
  | succ m ih =>
    intro p hm hp hp0
    cases h : pred V l p with
    | none => rw [root_none h]; exact ⟨h, hp0, rfl, Nat.le_refl _⟩
    | some q =>
      obtain ⟨h1, h2, h3⟩ := pred_lt H hp h
      rw [root_some h h1]
      obtain ⟨a, b, c, d⟩ := ih q (by omega) (by omega) h2
      exact ⟨a, b, by rw [c, h3 hp0], by omega⟩
/-- What is of one sequence stands in a row. -/
theorem chain {V : Nat → Int} {l : List Int} (H : Lv V l) : ∀ m x p, p ≤ m → p < l.length → 0 ≤ V x → 0 ≤ V p → root V l x = root V l p → x < p → ∃ y, nxt V l x = some y ∧ y ≤ p ∧ x < y ∧ root V l y = root V l p := by
  intro m
  induction m with
  | zero => intro x p hm hp hx0 hp0 hr hx; omega
  | succ m ih =>
    intro x p hm hp hx0 hp0 hr hx
    cases h : pred V l p with
    | none =>
      rw [root_none h] at hr
      have := root_le V l x x (Nat.le_refl _)
      omega
    | some q =>
      obtain ⟨h1, h2, h3⟩ := pred_lt H hp h
      have hn := (nxt_iff H (p := p) (by omega) h2).2 ⟨hp, hp0, h⟩
      have hrq := root_some h h1
      rcases Nat.lt_trichotomy x q with hxq | hxq | hxq
      · obtain ⟨y, e1, e2, e3, e4⟩ := ih x q (by omega) (by omega) hx0 h2 (by rw [hr, hrq]) hxq
        exact ⟨y, e1, by omega, e3, by rw [e4, hrq]⟩
      · subst hxq
        exact ⟨p, hn, Nat.le_refl _, hx, rfl⟩
      · obtain ⟨y, e1, e2, e3, e4⟩ := ih q x (by omega) (by omega) h2 hx0 (by rw [hr, hrq]) hxq
        rw [hn] at e1
        obtain rfl := Option.some.inj e1
        omega
end Go.Proofs.Ytdieknpikdepgaa.PC12
