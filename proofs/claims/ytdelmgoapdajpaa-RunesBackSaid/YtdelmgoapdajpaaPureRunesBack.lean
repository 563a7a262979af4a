/- RunesBack: the text of code points is valid, and has them as its runes; a text that is valid is the text of its runes' numbers; unlike code points make unlike texts (the pure statement over the printed Lean functions). Conditions: those of the statement. -/
import Derived.Test.YtdelmgoapdajpaaPC01x8
import Derived.Test.YtdelmgoapdajpaaHQ01
namespace Go.Proofs.Ytdelmgoapdajpaa.Pure
open Go.RowKit Go.Proofs.Ytdelmgoapdajpaa.PC01 Go.Proofs.YtdelmgoapdajpaaW.PrintWords Go.Proofs.YtdelmgoapdajpaaW.PrintLast Go.Proofs.YtdelmgoapdajpaaH Go.Proofs.YtdelmgoapdajpaaU
set_option linter.unusedVariables false

theorem fit_eq (c : Int) : parquetrylaw01_fit.f c = some ((codeOf c : Nat) : Int) := by
  unfold parquetrylaw01_fit.f codeOf
  by_cases h0 : c < 0
  · rw [if_pos h0, valid_neg c h0]
    rfl
  · obtain ⟨n, rfl⟩ := Int.eq_ofNat_of_zero_le (show 0 ≤ c by omega)
    rw [if_neg h0]
    by_cases hv : okN n
    · rw [if_pos ((valid_iff n).2 hv), Int.toNat_natCast]
      unfold okN at hv
      rw [if_neg (by omega)]
      split
      · rw [if_neg (by omega)]
      · rfl
    · rw [if_neg (fun h => hv ((valid_iff n).1 h))]
      unfold okN at hv
      by_cases h1 : (n : Int) > 1114111
      · rw [if_pos h1]
        rfl
      · rw [if_neg h1, if_pos (by omega), if_pos (by omega)]
        rfl
/-- The runes of a text of numbers. -/
theorem runes_text : ∀ (l : List Int) (n p : Nat), (textL l).length ≤ n → (runesL n (textL l) p).map (·.f2) = l.map (fun c => ((codeOf c : Nat) : Int)) ∧ ∀ x ∈ runesL n (textL l) p, oddR x = false
  | [], n, p, h => by
    rw [show textL [] = [] from rfl, runesL_nil]
    exact ⟨rfl, fun x hx => by simp at hx⟩
  | c :: l, n, p, h => by
    have hk := codeOf_ok c
    have hl := encN_len (codeOf c)
    have he : textL (c :: l) = encN (codeOf c) ++ textL l := rfl
    have hd := decL_enc (codeOf c) hk (textL l)
    rw [← he] at hd
    have hne : textL (c :: l) ≠ [] := by
      rw [he]
      intro h0
      have := congrArg List.length h0
      simp at this
      rw [this.1] at hl
      simp at hl
    have hlen : (textL (c :: l)).length = (encN (codeOf c)).length + (textL l).length := by rw [he, List.length_append]
    obtain ⟨n, rfl⟩ : ∃ m, n = m + 1 := ⟨n - 1, by omega⟩
    rw [runesL_cons n _ hne, hd]
    simp only
    have hdr : (textL (c :: l)).drop (encN (codeOf c)).length = textL l := by rw [he, List.drop_left]
    rw [hdr]
    obtain ⟨i1, i2⟩ := runes_text l n (p + (encN (codeOf c)).length) (by omega)
    refine ⟨by rw [List.map_cons, i1, List.map_cons], fun x hx => ?_⟩
    rcases List.mem_cons.1 hx with rfl | hx
    · refine decide_eq_false (fun ho => ?_)
      obtain ⟨o1, o2⟩ := ho
      simp only at o1 o2
      have : codeOf c = 65533 := by omega
      rw [this] at o2
      revert o2
      decide
    · exact i2 x hx
theorem valid_text (l : List Int) : validL (textL l) = true := by
  unfold validL runesOf
  rw [List.all_eq_true]
  intro x hx
  rw [(runes_text l _ 0 (Nat.le_refl _)).2 x hx]
  rfl
theorem codes_text (l : List Int) : (runesOf (textL l)).map (·.f2) = l.map (fun c => ((codeOf c : Nat) : Int)) := (runes_text l _ 0 (Nat.le_refl _)).1
/-- A text without odd bytes is its runes' text. -/
theorem text_runes : ∀ (n : Nat) (l : List UInt8) (p : Nat), l.length ≤ n → (∀ x ∈ runesL n l p, oddR x = false) → textL ((runesL n l p).map (·.f2)) = l
  | 0, l, p, h, _ => by
    obtain rfl : l = [] := List.eq_nil_of_length_eq_zero (by omega)
    rfl
  | n + 1, l, p, h, ho => by
    by_cases hne : l = []
    · subst hne
      rw [runesL_nil]
      rfl
    · rw [runesL_cons n l hne] at ho ⊢
      obtain ⟨d1, d2, d3, d4⟩ := decL_size l hne
      rcases decL_split l hne with ⟨h1, h2, h3⟩ | h'
      · have ih := text_runes n (l.drop (decL l).2) (p + (decL l).2) (by rw [List.length_drop]; omega) (fun x hx => ho x (by simp [hx]))
        rw [List.map_cons]
        have he : ∀ (c : Int) (r : List Int), textL (c :: r) = encN (codeOf c) ++ textL r := fun _ _ => rfl
        rw [he, ih, codeOf_nat _ h1]
        exact h2.symm
      · have := ho _ (List.mem_cons_self ..)
        rw [h'] at this
        exact absurd this (by simp [oddR])
theorem text_valid (l : List UInt8) (hv : validL l = true) : textL ((runesOf l).map (·.f2)) = l := by
  refine text_runes _ l 0 (Nat.le_refl _) (fun x hx => ?_)
  unfold validL at hv
  rw [List.all_eq_true] at hv
  have := hv x hx
  simpa using this
theorem codes_l0 (xs : List Rn) (hl : xs.length < 1000000000) : ∀ (r pre : List Rn), xs = pre ++ r → Ev (fun k => parquetrylaw01_codes.l0 k xs (pre.map (·.f2)) (pre.length : Int)) (xs.map (·.f2))
  | [], pre, h => by
    refine Ev.succ ?_
    simp only [parquetrylaw01_codes.l0]
    exact Ev.ifn (by rw [h]; simp) (Ev.val (Ev.now _) (by rw [h]; simp))
  | x :: r, pre, h => by
    have hlen : xs.length = pre.length + (r.length + 1) := by rw [h]; simp
    have hrd : rd_T27 xs (pre.length : Int) = x := by rw [h]; exact rd_at pre x r
    have e : wrap64 ((pre.length : Int) + 1) = ((pre ++ [x]).length : Int) := by rw [w64 (by omega) (by omega)]; simp
    have ih := codes_l0 xs hl r (pre ++ [x]) (by rw [h]; simp)
    rw [List.map_append] at ih
    refine Ev.succ ?_
    simp only [parquetrylaw01_codes.l0]
    rw [hrd, e]
    exact Ev.ifp (by omega) (Ev.ifp (by omega) (Ev.ifp (by rw [List.length_map]; omega) ih))
theorem codes_ev (xs : List Rn) (hl : xs.length < 1000000000) : Ev (fun k => parquetrylaw01_codes.f k xs) (xs.map (·.f2)) := by
  unfold parquetrylaw01_codes.f
  exact codes_l0 xs hl xs [] rfl
theorem ltext_ev (l : List Int) (hl : l.length < 1000000000) : Ev (fun k => parquetrylaw01_text.f k l) ⟨⟨textL l⟩⟩ := by
  unfold parquetrylaw01_text.f
  refine Ev.bindc rfl (Ev.ifp (by simp; omega) ?_)
  rw [List.nil_append]
  exact Ev.bind (text_ev l (by omega)) (Ev.now _)
theorem list_ne (a b : List UInt8) : ((ByteArray.mk ⟨a⟩).toList != (ByteArray.mk ⟨b⟩).toList) = (a != b) := by rw [Lib.toList_data, Lib.toList_data]
theorem list_eq (a b : List UInt8) : ((ByteArray.mk ⟨a⟩).toList == (ByteArray.mk ⟨b⟩).toList) = (a == b) := by rw [Lib.toList_data, Lib.toList_data]
theorem text_inj (a b : List Int) : textL a = textL b ↔ a.map codeOf = b.map codeOf := by
  constructor
  · intro h
    have h1 := codes_text a
    rw [h, codes_text b] at h1
    have e : ∀ l : List Int, l.map (fun c => ((codeOf c : Nat) : Int)) = (l.map codeOf).map (fun n : Nat => (n : Int)) := fun l => by rw [List.map_map]; rfl
    rw [e, e] at h1
    exact ((List.map_inj_right (fun x y hxy => by omega)).1 h1).symm
  · intro h
    have e : ∀ l : List Int, textL l = (l.map codeOf).flatMap encN := fun l => by unfold textL; rw [List.flatMap_map]
    rw [e, e, h]
theorem back_l1 (x y : List Int) (hx : x.length < 1000000000) (A B : List UInt8) (hA : A = textL x) (hB : B = textL y) : ∀ (r pre : List Int) (v : Bool), x = pre ++ r → (v = true → x.length = y.length) → (v = decide (x.length = y.length ∧ (pre.map codeOf = (y.take pre.length).map codeOf))) →
    Ev (fun k => parquetrylaw01_RunesBack.l1 k x y ⟨⟨A⟩⟩ ⟨⟨B⟩⟩ v (pre.length : Int)) true
  | r, pre, false, h, hl, hv => by
    refine Ev.succ ?_
    simp only [parquetrylaw01_RunesBack.l1]
    have hno : (A == B) = false := by
      rw [beq_eq_false_iff_ne]
      intro hAB
      rw [hA, hB, text_inj] at hAB
      have hlen : x.length = y.length := by simpa using congrArg List.length hAB
      have h1 : pre.map codeOf = (y.take pre.length).map codeOf := by
        have h2 := congrArg (List.take pre.length) hAB
        rw [← List.map_take, ← List.map_take, h, List.take_left] at h2
        exact h2
      exact absurd hv (by rw [decide_eq_true ⟨hlen, h1⟩]; decide)
    have fin : Ev (fun k => parquetrylaw01_RunesBack.j5 k x y ⟨⟨A⟩⟩ ⟨⟨B⟩⟩ false (pre.length : Int) false) true := by
      refine Ev.succ ?_
      simp only [parquetrylaw01_RunesBack.j5]
      refine Ev.ifn (by decide) (Ev.ifp ?_ (Ev.bind awake_ev (Ev.now _)))
      rw [list_eq, hno]
      rfl
    by_cases hi : (pre.length : Int) < (x.length : Int)
    · exact Ev.ifp hi fin
    · exact Ev.ifn hi fin
  | [], pre, true, h, hl, hv => by
    refine Ev.succ ?_
    simp only [parquetrylaw01_RunesBack.l1]
    refine Ev.ifn (by rw [h]; simp) (Ev.succ ?_)
    simp only [parquetrylaw01_RunesBack.j5]
    refine Ev.ifn (by decide) (Ev.ifp ?_ (Ev.bind awake_ev (Ev.now _)))
    have hq := of_decide_eq_true hv.symm
    have hyes : (A == B) = true := by
      rw [beq_iff_eq, hA, hB, text_inj]
      have h1 := hq.2
      have e1 : x = pre := by rw [h]; simp
      rw [e1]
      have e2 : y.take pre.length = y := by rw [← e1]; exact List.take_of_length_le (by omega)
      rw [e2] at h1
      exact h1
    rw [list_eq, hyes]
    rfl
  | c :: r, pre, true, h, hl, hv => by
    have hq := of_decide_eq_true hv.symm
    have hlen : x.length = pre.length + (r.length + 1) := by rw [h]; simp
    have hxl := hl rfl
    have hrd : rd x (pre.length : Int) = c := by rw [h]; exact rd_int pre c r
    have e : wrap64 ((pre.length : Int) + 1) = ((pre ++ [c]).length : Int) := by rw [w64 (by omega) (by omega)]; simp
    have hy : y[pre.length]? = some (rd y (pre.length : Int)) := by
      unfold rd
      rw [Int.toNat_natCast, List.getD_eq_getElem?_getD, List.getElem?_eq_getElem (by omega)]
      rfl
    refine Ev.succ ?_
    simp only [parquetrylaw01_RunesBack.l1]
    refine Ev.ifp (by omega) (Ev.succ ?_)
    simp only [parquetrylaw01_RunesBack.j5]
    rw [hrd, e]
    refine Ev.ifp (by simp) (Ev.ifp (by omega) (Ev.ifp (by omega) (Ev.bindc (fit_eq c) (Ev.ifp (by omega) (Ev.bindc (fit_eq _) ?_)))))
    refine back_l1 x y hx A B hA hB r (pre ++ [c]) _ (by rw [h]; simp) (fun _ => hxl) ?_
    rw [Bool.eq_iff_iff, decide_eq_true_eq, beq_iff_eq]
    have ht : (y.take (pre ++ [c]).length).map codeOf = (y.take pre.length).map codeOf ++ [codeOf (rd y (pre.length : Int))] := by
      rw [List.length_append, List.length_singleton, List.take_add_one, hy, List.map_append]
      rfl
    rw [ht, List.map_append, ← hq.2]
    constructor
    · intro h1
      refine ⟨hxl, ?_⟩
      congr 1
      simp only [List.map_cons, List.map_nil, List.cons.injEq, and_true]
      omega
    · intro h1
      have := List.append_cancel_left h1.2
      simp only [List.map_cons, List.map_nil, List.cons.injEq, and_true] at this
      omega
theorem back_l0 (x y : List Int) (s : List UInt8) (hx : x.length < 1000000) (hy : y.length < 1000000) (hs : s.length < 1000000) (xs : List Rn) (hxs : xs = runesOf (textL x)) : ∀ (r pre : List Int), x = pre ++ r →
    Ev (fun k => parquetrylaw01_RunesBack.l0 k x y ⟨⟨s⟩⟩ ⟨⟨textL x⟩⟩ ⟨⟨textL y⟩⟩ xs (pre.length : Int)) true
  | [], pre, h => by
    have fin : ∀ v, v = false → Ev (fun k => parquetrylaw01_RunesBack.j3 k x y ⟨⟨textL x⟩⟩ ⟨⟨textL y⟩⟩ v) true := by
      rintro v rfl
      refine Ev.succ ?_
      simp only [parquetrylaw01_RunesBack.j3]
      refine Ev.ifn (by decide) ?_
      refine back_l1 x y (by omega) _ _ rfl rfl x [] ((x.length : Int) == (y.length : Int)) rfl (fun h => by have := beq_iff_eq.1 h; omega) ?_
      rw [Bool.eq_iff_iff, decide_eq_true_eq, beq_iff_eq]
      simp
      omega
    refine Ev.succ ?_
    simp only [parquetrylaw01_RunesBack.l0]
    refine Ev.ifn (by rw [h]; simp) (Ev.bind (valid_ev s (by omega)) ?_)
    have hlen := runesOf_len s
    by_cases hv : validL s = true
    · refine Ev.ifp hv (Ev.bindc (split_eq s (by omega)) (Ev.bind (codes_ev _ (by omega)) (Ev.bind (text_ev _ (by rw [List.length_map]; omega)) ?_)))
      refine fin _ ?_
      rw [list_ne, text_valid s hv]
      simp
    · exact Ev.ifn hv (fin false rfl)
  | c :: r, pre, h => by
    have hlen : x.length = pre.length + (r.length + 1) := by rw [h]; simp
    have hxl : xs.length = x.length := by
      have := congrArg List.length (codes_text x)
      rw [hxs]
      simpa using this
    have hrd : rd x (pre.length : Int) = c := by rw [h]; exact rd_int pre c r
    have e : wrap64 ((pre.length : Int) + 1) = ((pre ++ [c]).length : Int) := by rw [w64 (by omega) (by omega)]; simp
    have hf : (rd_T27 xs (pre.length : Int)).f2 = ((codeOf c : Nat) : Int) := by
      have h1 := congrArg (fun l : List Int => l[pre.length]?) (codes_text x)
      simp only [← hxs, List.getElem?_map] at h1
      have hcx : x[pre.length]? = some c := by
        rw [h, List.getElem?_append_right (Nat.le_refl _), Nat.sub_self]
        rfl
      rw [List.getElem?_eq_getElem (show pre.length < xs.length by omega), hcx] at h1
      unfold rd_T27
      rw [Int.toNat_natCast, List.getD_eq_getElem?_getD, List.getElem?_eq_getElem (by omega)]
      simpa using h1
    refine Ev.succ ?_
    simp only [parquetrylaw01_RunesBack.l0]
    rw [hrd, e]
    refine Ev.ifp (by omega) (Ev.ifp (by omega) (Ev.ifp (by omega) (Ev.bindc (fit_eq c) (Ev.ifp hf ?_))))
    exact back_l0 x y s hx hy hs xs hxs r (pre ++ [c]) (by rw [h]; simp)
theorem RunesBack : parquetrylaw01_RunesBack.Pure := by
  intro x y s h1 h2 h3 h4 h5 h6 hs
  obtain ⟨L, rfl⟩ := list_of s
  refine Ev.ex ?_
  have far : Ev (fun k => parquetrylaw01_RunesBack.j0 k x y ⟨⟨L⟩⟩ true) true := by
    refine Ev.succ ?_
    simp only [parquetrylaw01_RunesBack.j0]
    exact Ev.ifp (by simp) (Ev.bind awake_ev (Ev.now _))
  unfold parquetrylaw01_RunesBack.f
  by_cases hx : (x.length : Int) > 1000
  · exact Ev.ifp hx far
  · refine Ev.ifn hx ?_
    by_cases hy : (y.length : Int) > 1000
    · exact Ev.ifp hy far
    · refine Ev.ifn hy ?_
      rw [size_list]
      by_cases hL : (L.length : Int) > 1000
      · rw [decide_eq_true hL]
        exact far
      · rw [decide_eq_false hL]
        have hlen := textL_len x
        have hc : (runesOf (textL x)).length = x.length := by
          have := congrArg List.length (codes_text x)
          simpa using this
        refine Ev.succ ?_
        simp only [parquetrylaw01_RunesBack.j0]
        refine Ev.ifn (by decide) (Ev.bind (ltext_ev x (by omega)) (Ev.bind (ltext_ev y (by omega)) (Ev.bindc (split_eq (textL x) (by omega)) (Ev.bind (valid_ev (textL x) (by omega)) ?_))))
        refine Ev.ifp (valid_text x) (Ev.succ ?_)
        simp only [parquetrylaw01_RunesBack.j1]
        refine Ev.ifn (by rw [hc]; simp) ?_
        exact back_l0 x y L (by omega) (by omega) (by omega) _ rfl x [] rfl
end Go.Proofs.Ytdelmgoapdajpaa.Pure
