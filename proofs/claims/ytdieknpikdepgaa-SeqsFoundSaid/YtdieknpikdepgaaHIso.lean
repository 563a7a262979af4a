/- Isolates, told of rows of classes: which are open, where each is closed, which level a row of classes tells. Conditions: none. -/
import Derived.Test.YtdieknpikdepgaaHEv
namespace Go.Proofs.YtdieknpikdepgaaH
set_option linter.unusedVariables false
set_option linter.unusedSimpArgs false

/-- Does a class begin an isolate? -/
def ini (c : Int) : Bool := decide (c = 19) || (decide (c = 20) || decide (c = 21))
/-- The isolates that are open behind some classes (told from the last one on), the last one first. -/
def stk : List Int → List Nat
  | [] => []
  | c :: r => if ini c = true then r.length :: stk r else if c = 22 then (stk r).tail else stk r
/-- How deep an isolate is, of which some classes are read; none, if it is closed. -/
def seg : List Int → Nat → Option Nat
  | [], d => some d
  | c :: r, d => if c = 22 then (match d with | 0 => none | d + 1 => seg r d) else if ini c = true then seg r (d + 1) else seg r d
/-- Where an isolate is closed. -/
def clo : List Int → Nat → Option Nat
  | [], _ => none
  | c :: r, d => if c = 22 then (match d with | 0 => some 0 | d + 1 => (clo r d).map (· + 1)) else if ini c = true then (clo r (d + 1)).map (· + 1) else (clo r d).map (· + 1)
theorem ini_ne {c : Int} (h : ini c = true) : c ≠ 22 := by
  simp only [ini, Bool.or_eq_true, decide_eq_true_eq] at h
  omega
theorem seg_append : ∀ (s t : List Int) (d : Nat), seg (s ++ t) d = (seg s d).bind (seg t)
  | [], t, d => rfl
  | c :: s, t, d => by
    rw [List.cons_append]
    unfold seg
    by_cases h : c = 22
    · rw [if_pos h, if_pos h]
      cases d with
      | zero => rfl
      | succ d => exact seg_append s t d
    · rw [if_neg h, if_neg h]
      split
      · exact seg_append s t (d + 1)
      · exact seg_append s t d
theorem clo_append : ∀ (s t : List Int) (d : Nat), clo (s ++ t) d = (match clo s d with | some e => some e | none => ((seg s d).bind (clo t)).map (· + s.length))
  | [], t, d => by simp [clo, seg]
  | c :: s, t, d => by
    rw [List.cons_append]
    unfold clo seg
    have key : ∀ d', (clo (s ++ t) d').map (· + 1) = (match (clo s d').map (· + 1) with | some e => some e | none => ((seg s d').bind (clo t)).map (· + (c :: s).length)) := fun d' => by
      rw [clo_append s t d']
      cases clo s d' with
      | some e => rfl
      | none =>
        simp only [Option.map_none, Option.map_map, List.length_cons]
        congr 1
    by_cases h : c = 22
    · rw [if_pos h, if_pos h, if_pos h]
      cases d with
      | zero => rfl
      | succ d => exact key d
    · rw [if_neg h, if_neg h, if_neg h]
      split
      · exact key (d + 1)
      · exact key d
theorem clo_seg : ∀ (s : List Int) (d : Nat), (clo s d = none) ↔ (seg s d ≠ none)
  | [], d => by simp [clo, seg]
  | c :: s, d => by
    unfold clo seg
    by_cases h : c = 22
    · rw [if_pos h, if_pos h]
      cases d with
      | zero => simp
      | succ d => simpa using clo_seg s d
    · rw [if_neg h, if_neg h]
      split
      · simpa using clo_seg s (d + 1)
      · simpa using clo_seg s d
theorem clo_get : ∀ (s : List Int) (d e : Nat), clo s d = some e → s[e]? = some 22
  | [], d, e, h => by simp [clo] at h
  | c :: s, d, e, h => by
    unfold clo at h
    by_cases hc : c = 22
    · rw [if_pos hc] at h
      cases d with
      | zero =>
        obtain rfl : 0 = e := by simpa using h
        simp [hc]
      | succ d =>
        obtain ⟨e', h1, rfl⟩ := Option.map_eq_some_iff.1 h
        simpa using clo_get s d e' h1
    · rw [if_neg hc] at h
      split at h
      · obtain ⟨e', h1, rfl⟩ := Option.map_eq_some_iff.1 h
        simpa using clo_get s (d + 1) e' h1
      · obtain ⟨e', h1, rfl⟩ := Option.map_eq_some_iff.1 h
        simpa using clo_get s d e' h1
theorem clo_lt (s : List Int) (d e : Nat) (h : clo s d = some e) : e < s.length := (List.getElem?_eq_some_iff.1 (clo_get s d e h)).1
/-- The rows of open isolates fall. -/
theorem stk_lt : ∀ (r : List Int), ∀ k ∈ stk r, k < r.length
  | [], k, h => by simp [stk] at h
  | c :: r, k, h => by
    unfold stk at h
    have ih := stk_lt r
    simp only [List.length_cons]
    split at h
    · rcases List.mem_cons.1 h with rfl | h
      · omega
      · have := ih k h; omega
    · split at h
      · have := ih k (List.mem_of_mem_tail h); omega
      · have := ih k h; omega
theorem seg_one (s : List Int) (c : Int) (d : Nat) : seg (s ++ [c]) d = (seg s d).bind fun j => if c = 22 then (match j with | 0 => none | j + 1 => some j) else if ini c = true then some (j + 1) else some j := by
  rw [seg_append]
  congr 1
/-- What is open, and how deep: the rows tell it. -/
theorem stk_seg : ∀ (r : List Int) (k j : Nat), k < r.length → ini (r.reverse.getD k 0) = true → (seg (r.reverse.drop (k + 1)) 0 = some j ↔ (stk r)[j]? = some k)
  | [], k, j, hk, _ => by simp at hk
  | c :: r, k, j, hk, hi => by
    have hrl : r.reverse.length = r.length := List.length_reverse
    rw [List.reverse_cons] at hi ⊢
    by_cases hk2 : k < r.length
    · have hi' : ini (r.reverse.getD k 0) = true := by
        rw [List.getD_eq_getElem?_getD, List.getElem?_append_left (by omega)] at hi
        rw [List.getD_eq_getElem?_getD]
        exact hi
      rw [List.drop_append_of_le_length (by omega), seg_one]
      have ih := fun j => stk_seg r k j hk2 hi'
      unfold stk
      by_cases h1 : ini c = true
      · rw [if_pos h1]
        simp only [if_neg (ini_ne h1), if_pos h1]
        cases j with
        | zero =>
          simp only [List.getElem?_cons_zero]
          constructor
          · intro h
            obtain ⟨x, _, hx⟩ := Option.bind_eq_some_iff.1 h
            simp at hx
          · intro h
            simp at h
            omega
        | succ j =>
          rw [List.getElem?_cons_succ, ← ih j]
          constructor
          · intro h
            obtain ⟨x, hx1, hx⟩ := Option.bind_eq_some_iff.1 h
            have : x + 1 = j + 1 := by simpa using hx
            rw [hx1]
            congr 1
            omega
          · intro h
            rw [h]
            rfl
      · rw [if_neg h1]
        by_cases h2 : c = 22
        · rw [if_pos h2]
          simp only [if_pos h2]
          rw [List.getElem?_tail, ← ih (j + 1)]
          constructor
          · intro h
            obtain ⟨x, hx1, hx⟩ := Option.bind_eq_some_iff.1 h
            cases x with
            | zero => simp at hx
            | succ x =>
              have : x = j := by simpa using hx
              rw [hx1, this]
          · intro h
            rw [h]
            rfl
        · rw [if_neg h2]
          simp only [if_neg h2, if_neg h1]
          rw [← ih j]
          cases seg (List.drop (k + 1) r.reverse) 0 <;> simp
    · have hk3 : k = r.length := by simp only [List.length_cons] at hk; omega
      subst hk3
      have hc : ini c = true := by
        rw [List.getD_eq_getElem?_getD, List.getElem?_append_right (by omega), hrl, Nat.sub_self] at hi
        simpa using hi
      rw [List.drop_of_length_le (by simp)]
      unfold stk
      rw [if_pos hc]
      simp only [seg]
      cases j with
      | zero => simp
      | succ j =>
        simp only [List.getElem?_cons_succ]
        constructor
        · intro h; simp at h
        · intro h
          have := stk_lt r _ (List.mem_of_getElem? h)
          omega
theorem stk_ini : ∀ (r : List Int), ∀ k ∈ stk r, ini (r.reverse.getD k 0) = true
  | [], k, h => by simp [stk] at h
  | c :: r, k, h => by
    have hrl : r.reverse.length = r.length := List.length_reverse
    have old : k ∈ stk r → ini ((c :: r).reverse.getD k 0) = true := fun hk => by
      have h1 := stk_lt r k hk
      have h2 := stk_ini r k hk
      rw [List.getD_eq_getElem?_getD] at h2 ⊢
      rw [List.reverse_cons, List.getElem?_append_left (by omega)]
      exact h2
    unfold stk at h
    split at h
    · rename_i hc
      rcases List.mem_cons.1 h with rfl | h
      · rw [List.getD_eq_getElem?_getD, List.reverse_cons, List.getElem?_append_right (by omega), hrl, Nat.sub_self]
        simpa using hc
      · exact old h
    · split at h
      · exact old (List.mem_of_mem_tail h)
      · exact old h
/-! of a whole row of classes -/
def at' (l : List Int) (i : Nat) : Int := l.getD i 0
/-- Where the isolate that begins at a place is over. -/
def endOf (l : List Int) (i : Nat) : Nat := match clo (l.drop (i + 1)) 0 with | some e => i + 1 + e | none => l.length
/-- The isolates that are open ahead of a place. -/
def ope (l : List Int) (i : Nat) : List Nat := stk (l.take i).reverse
def mAt (l : List Int) (i : Nat) : Int := if ini (at' l i) = true then (endOf l i : Int) else if at' l i = 22 then (match (ope l i).head? with | some k => (k : Int) | none => -1) else -1
theorem ope_lt (l : List Int) (i : Nat) (hi : i ≤ l.length) (k : Nat) (h : k ∈ ope l i) : k < i := by
  have := stk_lt _ k h
  rw [List.length_reverse, List.length_take] at this
  omega
theorem at_take (l : List Int) (i k : Nat) (hk : k < i) : (l.take i).getD k 0 = at' l k := by
  unfold at'
  rw [List.getD_eq_getElem?_getD, List.getD_eq_getElem?_getD, List.getElem?_take, if_pos hk]
theorem ope_ini (l : List Int) (i : Nat) (hi : i ≤ l.length) (k : Nat) (h : k ∈ ope l i) : ini (at' l k) = true := by
  have := stk_ini _ k h
  rw [List.reverse_reverse, at_take l i k (ope_lt l i hi k h)] at this
  exact this
theorem ope_seg (l : List Int) (i k j : Nat) (hi : i ≤ l.length) (hk : k < i) (hk2 : ini (at' l k) = true) : seg ((l.take i).drop (k + 1)) 0 = some j ↔ (ope l i)[j]? = some k := by
  have := stk_seg (l.take i).reverse k j (by rw [List.length_reverse, List.length_take]; omega) (by rw [List.reverse_reverse, at_take l i k hk]; exact hk2)
  rw [List.reverse_reverse] at this
  exact this
theorem split_at (l : List Int) (i k : Nat) (hi : i < l.length) (hk : k < i) : l.drop (k + 1) = (l.take i).drop (k + 1) ++ at' l i :: l.drop (i + 1) := by
  have h1 : l = l.take i ++ at' l i :: l.drop (i + 1) := by
    unfold at'
    rw [List.getD_eq_getElem?_getD, List.getElem?_eq_getElem hi, Option.getD_some, ← List.drop_eq_getElem_cons hi, List.take_append_drop]
  have h2 : (l.take i).length = i := by rw [List.length_take]; omega
  conv => lhs; rw [h1]
  rw [List.drop_append_of_le_length (by omega)]
theorem seg_len (l : List Int) (i k : Nat) (hi : i ≤ l.length) (hk : k < i) : ((l.take i).drop (k + 1)).length = i - (k + 1) := by
  rw [List.length_drop, List.length_take]
  omega
/-- An isolate is over at a PDI just if it is the last one that is open. -/
theorem end_iff (l : List Int) (i k : Nat) (hi : i < l.length) (hk : k < i) (h22 : at' l i = 22) (hk2 : ini (at' l k) = true) : endOf l k = i ↔ (ope l i).head? = some k := by
  rw [List.head?_eq_getElem?, ← ope_seg l i k 0 (by omega) hk hk2]
  have hs := split_at l i k hi hk
  have hl := seg_len l i k (by omega) hk
  unfold endOf
  rw [hs, clo_append, h22]
  generalize (l.take i).drop (k + 1) = s at *
  have h1 := clo_seg s 0
  cases hc : clo s 0 with
  | some e =>
    have h2 := clo_lt s 0 e hc
    rw [hc] at h1
    simp only
    constructor
    · intro h; omega
    · intro h
      exfalso
      have := h1.2 (by rw [h]; simp)
      simp at this
  | none =>
    have h3 := h1.1 hc
    simp only
    cases hd : seg s 0 with
    | none => exact absurd hd h3
    | some d =>
      simp only [Option.bind_some]
      cases d with
      | zero =>
        simp [clo]
        omega
      | succ d =>
        unfold clo
        rw [if_pos rfl]
        constructor
        · intro h
          exfalso
          cases hq : clo (l.drop (i + 1)) d with
          | none => simp [hq] at h; omega
          | some q => simp [hq] at h; omega
        · intro h; simp at h
/-- An isolate goes on behind a place, where no isolate ends, just if it is open there. -/
theorem end_gt (l : List Int) (i k : Nat) (hi : i < l.length) (hk : k < i) (h22 : at' l i ≠ 22) (hk2 : ini (at' l k) = true) : i < endOf l k ↔ k ∈ ope l i := by
  have hm : k ∈ ope l i ↔ seg ((l.take i).drop (k + 1)) 0 ≠ none := by
    rw [List.mem_iff_getElem?]
    constructor
    · rintro ⟨j, hj⟩
      rw [(ope_seg l i k j (by omega) hk hk2).2 hj]
      simp
    · intro h
      obtain ⟨j, hj⟩ := Option.ne_none_iff_exists'.1 h
      exact ⟨j, (ope_seg l i k j (by omega) hk hk2).1 hj⟩
  rw [hm]
  have hs := split_at l i k hi hk
  have hl := seg_len l i k (by omega) hk
  unfold endOf
  rw [hs, clo_append]
  generalize (l.take i).drop (k + 1) = s at *
  have h1 := clo_seg s 0
  cases hc : clo s 0 with
  | some e =>
    have h2 := clo_lt s 0 e hc
    rw [hc] at h1
    simp only
    constructor
    · intro h; omega
    · intro h
      have := h1.2 h
      simp at this
  | none =>
    have h3 := h1.1 hc
    simp only
    refine ⟨fun _ => h3, fun _ => ?_⟩
    obtain ⟨d, hd⟩ := Option.ne_none_iff_exists'.1 h3
    rw [hd]
    simp only [Option.bind_some]
    cases hq : clo (at' l i :: l.drop (i + 1)) d with
    | none => simp; omega
    | some q =>
      have : q ≠ 0 := by
        rintro rfl
        have := clo_get _ _ _ hq
        simp at this
        exact h22 this
      simp
      omega
/-! the level -/
/-- The level that classes tell behind some isolates that are open. -/
def lev : List Int → Nat → Int × Bool
  | [], _ => (0, false)
  | c :: r, 0 => if c = 0 then (0, true) else if c = 1 then (1, true) else if c = 2 then (1, true) else if ini c = true then lev r 1 else lev r 0
  | c :: r, d + 1 => if c = 22 then lev r d else if ini c = true then lev r (d + 2) else lev r (d + 1)
theorem lev_s (c : Int) (r : List Int) (d : Nat) : lev (c :: r) (d + 1) = if c = 22 then lev r d else if ini c = true then lev r (d + 2) else lev r (d + 1) := rfl
theorem clo_z (r : List Int) : clo (22 :: r) 0 = some 0 := rfl
theorem clo_s (r : List Int) (d : Nat) : clo (22 :: r) (d + 1) = (clo r d).map (· + 1) := rfl
theorem clo_c (c : Int) (r : List Int) (d : Nat) (h : c ≠ 22) : clo (c :: r) d = if ini c = true then (clo r (d + 1)).map (· + 1) else (clo r d).map (· + 1) := by
  conv => lhs; unfold clo
  rw [if_neg h]
theorem lev_clo : ∀ (r : List Int) (d : Nat), lev r (d + 1) = (match clo r d with | some e => lev (r.drop (e + 1)) 0 | none => (0, false))
  | [], d => rfl
  | c :: r, d => by
    rw [lev_s]
    by_cases h : c = 22
    · subst h
      rw [if_pos rfl]
      cases d with
      | zero => rw [clo_z]; rfl
      | succ d =>
        rw [lev_clo r d, clo_s]
        cases clo r d <;> rfl
    · rw [if_neg h, clo_c c r d h]
      split
      · rw [lev_clo r (d + 1)]
        cases clo r (d + 1) <;> rfl
      · rw [lev_clo r d]
        cases clo r d <;> rfl
theorem stk_len : ∀ (r : List Int), (stk r).length ≤ r.length
  | [] => by simp [stk]
  | c :: r => by
    have ih := stk_len r
    unfold stk
    split
    · simpa using ih
    · split
      · simp only [List.length_tail, List.length_cons]; omega
      · simp only [List.length_cons]; omega
theorem ope_len (l : List Int) (i : Nat) : (ope l i).length ≤ l.length := by
  have := stk_len (l.take i).reverse
  rw [List.length_reverse, List.length_take] at this
  unfold ope
  omega
theorem take_one (l : List Int) (p : Nat) (hp : p < l.length) : l.take (p + 1) = l.take p ++ [at' l p] := by
  rw [List.take_succ_eq_append_getElem hp]
  unfold at'
  rw [List.getD_eq_getElem?_getD, List.getElem?_eq_getElem hp]
  rfl
theorem ope_succ (l : List Int) (p : Nat) (hp : p < l.length) : ope l (p + 1) = if ini (at' l p) = true then p :: ope l p else if at' l p = 22 then (ope l p).tail else ope l p := by
  unfold ope
  rw [take_one l p hp, List.reverse_append]
  show stk (at' l p :: (l.take p).reverse) = _
  have h : (l.take p).reverse.length = p := by rw [List.length_reverse, List.length_take]; omega
  conv => lhs; unfold stk
  rw [h]
/-- What a row of isolates tells of a place, p classes being read. -/
def mP (l : List Int) (p i : Nat) : Int := if ini (at' l i) = true then (match clo ((l.take p).drop (i + 1)) 0 with | some e => ((i + 1 + e : Nat) : Int) | none => (l.length : Int)) else if at' l i = 22 then (match (ope l i).head? with | some k => (k : Int) | none => -1) else -1
theorem mP_all (l : List Int) (i : Nat) : mP l l.length i = mAt l i := by
  unfold mP mAt endOf
  rw [List.take_length]
  by_cases h : ini (at' l i) = true
  · rw [if_pos h, if_pos h]
    cases clo (l.drop (i + 1)) 0 <;> rfl
  · rw [if_neg h, if_neg h]
theorem mP_succ (l : List Int) (p i : Nat) (hp : p < l.length) (hi : i < p) : mP l (p + 1) i = if at' l p = 22 ∧ (ope l p).head? = some i then (p : Int) else mP l p i := by
  have hs : (l.take (p + 1)).drop (i + 1) = (l.take p).drop (i + 1) ++ [at' l p] := by
    rw [take_one l p hp, List.drop_append_of_le_length (by rw [List.length_take]; omega)]
  have hl := seg_len l p i (by omega) hi
  by_cases h1 : ini (at' l i) = true
  · have h2 := ope_seg l p i 0 (by omega) hi h1
    rw [← List.head?_eq_getElem?] at h2
    simp only [← h2]
    unfold mP
    rw [if_pos h1, if_pos h1, hs, clo_append]
    generalize (l.take p).drop (i + 1) = s at *
    have h3 := clo_seg s 0
    cases hc : clo s 0 with
    | some e =>
      rw [hc] at h3
      have h4 : seg s 0 = none := by
        cases hd : seg s 0 with
        | none => rfl
        | some d => exact absurd (h3.2 (by rw [hd]; simp)) (by simp)
      rw [h4, if_neg (by simp)]
    | none =>
      have h4 := h3.1 hc
      simp only
      cases hd : seg s 0 with
      | none => exact absurd hd h4
      | some d =>
        simp only [Option.bind_some]
        by_cases h5 : at' l p = 22
        · rw [h5]
          cases d with
          | zero =>
            rw [if_pos ⟨rfl, rfl⟩, clo_z]
            simp
            omega
          | succ d =>
            rw [if_neg (by simp), clo_s]
            rfl
        · rw [if_neg (fun h => h5 h.1), clo_c _ _ _ h5]
          simp [clo]
  · have h2 : ¬ (at' l p = 22 ∧ (ope l p).head? = some i) := fun h => h1 (ope_ini l p (by omega) i (List.mem_of_mem_head? h.2))
    rw [if_neg h2]
    unfold mP
    rw [if_neg h1, if_neg h1]
theorem mP_new (l : List Int) (p : Nat) (hp : p < l.length) : mP l (p + 1) p = if ini (at' l p) = true then (l.length : Int) else if at' l p = 22 then (match (ope l p).head? with | some k => (k : Int) | none => -1) else -1 := by
  unfold mP
  rw [List.drop_of_length_le (by rw [List.length_take]; omega)]
  rfl
/-- The matches of a row of classes. -/
def mAll (l : List Int) : List Int := (List.range l.length).map (mAt l)
theorem mAll_len (l : List Int) : (mAll l).length = l.length := by simp [mAll]
theorem mAll_get (l : List Int) (i : Nat) (hi : i < l.length) : (mAll l).getD i 0 = mAt l i := by
  unfold mAll
  rw [List.getD_eq_getElem?_getD, List.getElem?_map, List.getElem?_range hi]
  rfl
theorem endOf_gt (l : List Int) (i : Nat) (hi : i < l.length) : i < endOf l i := by
  unfold endOf
  cases clo (l.drop (i + 1)) 0 with
  | none => exact hi
  | some e => simp only; omega
theorem endOf_le (l : List Int) (i : Nat) : endOf l i ≤ l.length := by
  unfold endOf
  cases hc : clo (l.drop (i + 1)) 0 with
  | none => exact Nat.le_refl _
  | some e =>
    have := clo_lt _ _ _ hc
    rw [List.length_drop] at this
    simp only
    omega
theorem drop_at (l : List Int) (i : Nat) (hi : i < l.length) : l.drop i = at' l i :: l.drop (i + 1) := by
  rw [List.drop_eq_getElem_cons hi]
  unfold at'
  rw [List.getD_eq_getElem?_getD, List.getElem?_eq_getElem hi]
  rfl
/-- Behind an initiator the level is told from behind its end on. -/
theorem lev_end (l : List Int) (i : Nat) (hi : i < l.length) (h : ini (at' l i) = true) : lev (l.drop i) 0 = lev (l.drop (endOf l i + 1)) 0 := by
  have h2 : ¬ at' l i = 0 ∧ ¬ at' l i = 1 ∧ ¬ at' l i = 2 := by
    simp only [ini, Bool.or_eq_true, decide_eq_true_eq] at h
    omega
  rw [drop_at l i hi]
  conv => lhs; unfold lev
  rw [if_neg h2.1, if_neg h2.2.1, if_neg h2.2.2, if_pos h, lev_clo]
  unfold endOf
  cases hc : clo (l.drop (i + 1)) 0 with
  | none =>
    simp only
    rw [List.drop_of_length_le (by omega)]
    rfl
  | some e =>
    simp only
    rw [List.drop_drop]
    congr 2
end Go.Proofs.YtdieknpikdepgaaH
