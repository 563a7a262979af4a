/- RunesCuts: a text that is cut ahead of one of its runes has, in two parts, the runes ahead of the cut and those behind it (the pure statement over the printed Lean functions). Conditions: those of the statement. -/
import Derived.Test.YtdelmgoapdajpaaPC01x9
import Derived.Test.YtdelmgoapdajpaaHQ01
namespace Go.Proofs.Ytdelmgoapdajpaa.Pure
open Go.RowKit Go.Proofs.Ytdelmgoapdajpaa.PC01 Go.Proofs.YtdelmgoapdajpaaW.PrintWords Go.Proofs.YtdelmgoapdajpaaW.PrintLast Go.Proofs.YtdelmgoapdajpaaH Go.Proofs.YtdelmgoapdajpaaU
set_option linter.unusedVariables false

/-- What is read hangs on the bytes that are read alone. -/
theorem decL_take (l : List UInt8) (hne : l ≠ []) (m : Nat) (hm : (decL l).2 ≤ m) : decL (l.take m) = decL l := by
  obtain ⟨d1, d2, d3, d4⟩ := decL_size l hne
  rcases decL_split l hne with ⟨h1, h2, h3⟩ | h
  · have e : l.take m = encN (decL l).1 ++ (l.drop (decL l).2).take (m - (decL l).2) := by
      conv => lhs; rw [h2]
      rw [List.take_append, ← h3, List.take_of_length_le (by omega)]
    rw [e, decL_enc _ h1, ← h3]
  · rw [h] at hm ⊢
    have hne2 : l.take m ≠ [] := by
      intro h0
      rcases List.take_eq_nil_iff.1 h0 with h0 | h0
      · omega
      · exact hne h0
    rcases decL_split (l.take m) hne2 with ⟨h1, h2, h3⟩ | h'
    · have e : l = encN (decL (l.take m)).1 ++ ((l.take m).drop (decL (l.take m)).2 ++ l.drop m) := by
        rw [← List.append_assoc, ← h2, List.take_append_drop]
      have := decL_of_prefix l _ h1 _ e
      rw [h] at this
      rw [← h3] at this
      exact this.symm
    · exact h'
def shiftR (d : Int) (x : Rn) : Rn := ⟨x.f0 + d, x.f1, x.f2⟩
theorem runesL_shift : ∀ (n : Nat) (l : List UInt8) (p q : Nat), runesL n l (p + q) = (runesL n l p).map (shiftR (q : Int))
  | 0, l, p, q => rfl
  | n + 1, l, p, q => by
    by_cases hne : l = []
    · subst hne
      rw [runesL_nil, runesL_nil]
      rfl
    · rw [runesL_cons n l hne, runesL_cons n l hne, List.map_cons, show p + q + (decL l).2 = p + (decL l).2 + q by omega, runesL_shift n _ (p + (decL l).2) q]
      rfl
/-- Cut ahead of the k-th rune. -/
theorem runes_cut : ∀ (n : Nat) (l : List UInt8) (p k : Nat), l.length ≤ n → k < (runesL n l p).length →
    ∃ m, m ≤ l.length ∧ ((runesL n l p)[k]?).map (·.f0) = some ((p + m : Nat) : Int) ∧ runesL n (l.take m) p = (runesL n l p).take k ∧ runesL n (l.drop m) (p + m) = (runesL n l p).drop k
  | 0, l, p, k, h, hk => by simp [runesL] at hk
  | n + 1, l, p, k, h, hk => by
    by_cases hne : l = []
    · subst hne
      rw [runesL_nil] at hk
      simp at hk
    · obtain ⟨d1, d2, d3, d4⟩ := decL_size l hne
      rw [runesL_cons n l hne] at hk ⊢
      cases k with
      | zero =>
        refine ⟨0, by omega, rfl, ?_, ?_⟩
        · rw [List.take_zero, runesL_nil]
          rfl
        · rw [List.drop_zero, Nat.add_zero, runesL_cons n l hne]
          rfl
      | succ k =>
        obtain ⟨m, h1, h2, h3, h4⟩ := runes_cut n (l.drop (decL l).2) (p + (decL l).2) k (by rw [List.length_drop]; omega) (by simpa using hk)
        rw [List.length_drop] at h1
        refine ⟨(decL l).2 + m, by omega, ?_, ?_, ?_⟩
        · rw [List.getElem?_cons_succ, h2]
          congr 2
          omega
        · have hne2 : l.take ((decL l).2 + m) ≠ [] := by
            intro h0
            rcases List.take_eq_nil_iff.1 h0 with h0 | h0
            · omega
            · exact hne h0
          rw [runesL_cons n _ hne2, decL_take l hne _ (by omega), List.take_succ_cons]
          congr 1
          rw [← h3, List.drop_take]
          congr 2
          omega
        · rw [List.drop_succ_cons, ← h4, List.drop_drop, ← Nat.add_assoc]
          have e : l.drop ((decL l).2 + m) = (l.drop (decL l).2).drop m := by rw [List.drop_drop]
          exact runesL_fuel _ _ _ _ (by rw [List.length_drop]; omega) (by rw [List.length_drop]; omega)
theorem and65535 (n : Int) : bits .and .i64 n 65535 = n % 65536 := by
  have h127 : (BitVec.ofInt 64 65535).toNat = 2 ^ 16 - 1 := by decide
  have key : (BitVec.ofInt 64 n &&& BitVec.ofInt 64 65535).toNat = (n % ((2 ^ 64 : Nat) : Int)).toNat % 2 ^ 16 := by
    rw [BitVec.toNat_and, BitVec.toNat_ofInt, h127, Nat.and_two_pow_sub_one_eq_mod]
  show IntKind.i64.wrap ((BitVec.ofInt 64 n &&& BitVec.ofInt 64 65535).toNat : Nat) = n % 65536
  rw [key, IntKind.wrap_i64]
  omega
theorem beq_refl3 (x : Rn) : (!(x.f0 == x.f0) || (!(x.f1 == x.f1) || (!(x.f2 == x.f2)))) = false := by simp
theorem cuts_l0 (L : List UInt8) (hL : L.length < 1000000) (xs a b : List Rn) (hx : xs.length ≤ L.length) (k at_ : Nat) (hk : k < xs.length) (hat : at_ ≤ L.length) (ha : a = xs.take k) (hb : b.map (shiftR (at_ : Int)) = xs.drop k)
    (hf : ∀ x ∈ xs, 0 ≤ x.f0 ∧ x.f0 ≤ 1000000) : ∀ (r pre : List Rn), xs = pre ++ r → Ev (fun n => parquetrylaw01_RunesCuts.l0 n xs (k : Int) (at_ : Int) a b (pre.length : Int)) true
  | [], pre, h => by
    refine Ev.succ ?_
    simp only [parquetrylaw01_RunesCuts.l0]
    exact Ev.ifn (by rw [h]; simp) (Ev.bind awake_ev (Ev.now _))
  | x :: r, pre, h => by
    have hlen : xs.length = pre.length + (r.length + 1) := by rw [h]; simp
    have hrd : rd_T27 xs (pre.length : Int) = x := by rw [h]; exact rd_at pre x r
    have e : wrap64 ((pre.length : Int) + 1) = ((pre ++ [x]).length : Int) := by rw [w64 (by omega) (by omega)]; simp
    have ih := cuts_l0 L hL xs a b hx k at_ hk hat ha hb hf r (pre ++ [x]) (by rw [h]; simp)
    have hbl : b.length = xs.length - k := by have := congrArg List.length hb; simpa using this
    refine Ev.succ ?_
    simp only [parquetrylaw01_RunesCuts.l0]
    refine Ev.ifp (by omega) (Ev.ifp (by omega) ?_)
    rw [hrd]
    by_cases hi : pre.length < k
    · have hra : rd_T27 a (pre.length : Int) = x := by
        rw [ha, h, List.take_append, List.take_of_length_le (by omega), show k - pre.length = (k - pre.length - 1) + 1 by omega, List.take_succ_cons]
        exact rd_at pre x _
      refine Ev.ifp (by omega) (Ev.ifp (by rw [ha, List.length_take]; omega) (Ev.succ ?_))
      simp only [parquetrylaw01_RunesCuts.j4]
      rw [hra, beq_refl3, e]
      exact Ev.ifn (by decide) (Ev.ifn (by omega) ih)
    · have hrb : ∃ y, rd_T27 b (((pre.length - k : Nat)) : Int) = y ∧ shiftR (at_ : Int) y = x := by
        refine ⟨_, rfl, ?_⟩
        unfold rd_T27
        rw [Int.toNat_natCast, List.getD_eq_getElem?_getD, List.getElem?_eq_getElem (by omega)]
        have h1 : (b.map (shiftR (at_ : Int)))[pre.length - k]? = some x := by
          rw [hb, List.getElem?_drop, show k + (pre.length - k) = pre.length by omega, h, List.getElem?_append_right (Nat.le_refl _), Nat.sub_self]
          rfl
        rw [List.getElem?_map, List.getElem?_eq_getElem (by omega)] at h1
        simpa using h1
      obtain ⟨y, hy, hyx⟩ := hrb
      have hmem : x ∈ xs := by rw [h]; simp
      have h0 := hf x hmem
      refine Ev.ifn (by omega) (Ev.succ ?_)
      simp only [parquetrylaw01_RunesCuts.j4]
      refine Ev.ifn (by decide) (Ev.ifp (by omega) ?_)
      rw [w64 (x := (pre.length : Int) - (k : Int)) (by omega) (by omega), show (pre.length : Int) - (k : Int) = ((pre.length - k : Nat) : Int) by omega, hy, e, w64 (by omega) (by omega)]
      refine Ev.ifp (by omega) (Ev.ifp (by omega) (Ev.ifn ?_ ih))
      rw [← hyx]
      unfold shiftR
      simp
theorem f0_bound (L : List UInt8) (hL : L.length ≤ 4000) : ∀ x ∈ runesOf L, 0 ≤ x.f0 ∧ x.f0 ≤ 1000000 := by
  intro x hx
  obtain ⟨pre, r, h⟩ := List.append_of_mem hx
  have hc := chain_of L
  rw [h] at hc
  have h1 : ∀ (pre : List Rn) (p : Int), 0 ≤ p → Chain p (pre ++ x :: r) (L.length : Int) → 0 ≤ x.f0 ∧ x.f0 ≤ (L.length : Int) := by
    intro pre
    induction pre with
    | nil =>
      intro p hp h
      have := chain_le _ _ _ h
      simp only [List.nil_append, List.length_cons] at this
      have := h.1
      omega
    | cons y pre ih =>
      intro p hp h
      obtain ⟨a1, a2, a3, a4, a5, a6⟩ := h
      exact ih _ (by omega) a6
  have := h1 pre 0 (by omega) hc
  omega
theorem RunesCuts : parquetrylaw01_RunesCuts.Pure := by
  intro s w hs hw
  obtain ⟨L, rfl⟩ := list_of s
  refine Ev.ex ?_
  unfold parquetrylaw01_RunesCuts.f
  rw [size_list]
  by_cases h : (L.length : Int) > 4000
  · refine Ev.ifp h (Ev.succ ?_)
    simp only [parquetrylaw01_RunesCuts.j0]
    exact Ev.ifp (by simp) (Ev.bind awake_ev (Ev.now _))
  · refine Ev.ifn h (Ev.succ ?_)
    simp only [parquetrylaw01_RunesCuts.j0]
    by_cases h0 : (L.length : Int) = 0
    · exact Ev.ifp (by simp only [h0]; rfl) (Ev.bind awake_ev (Ev.now _))
    · refine Ev.ifn (by simp only [beq_iff_eq]; exact h0) (Ev.bindc (split_eq L (by omega)) ?_)
      have hlen := runesOf_len L
      have hpos : 0 < (runesOf L).length := by
        unfold runesOf
        rw [show L.length = (L.length - 1) + 1 by omega, runesL_cons _ L (by intro h; subst h; simp at h0)]
        simp
      rw [and65535]
      have hm : Int.tmod (w % 65536) ((runesOf L).length : Int) = (((w % 65536).toNat % (runesOf L).length : Nat) : Int) := by
        have h1 : (w % 65536) = ((w % 65536).toNat : Int) := by omega
        conv => lhs; rw [h1]
        exact tmod_nat _ _
      rw [hm]
      generalize hk : (w % 65536).toNat % (runesOf L).length = k
      have hkl : k < (runesOf L).length := by rw [← hk]; exact Nat.mod_lt _ hpos
      obtain ⟨m, hm1, hm2, hm3, hm4⟩ := runes_cut L.length L 0 k (Nat.le_refl _) hkl
      have hat : (rd_T27 (runesOf L) (k : Int)).f0 = (m : Int) := by
        unfold rd_T27
        rw [Int.toNat_natCast, List.getD_eq_getElem?_getD]
        have h1 : ((runesOf L)[k]?).map (·.f0) = some (m : Int) := by simpa [runesOf] using hm2
        cases h2 : (runesOf L)[k]? with
        | none => rw [h2] at h1; cases h1
        | some y => rw [h2] at h1; simpa using h1
      have ha : runesOf (L.take m) = (runesOf L).take k := by
        unfold runesOf
        rw [← hm3]
        exact runesL_fuel _ _ _ _ (Nat.le_refl _) (by rw [List.length_take]; omega)
      have hb : (runesOf (L.drop m)).map (shiftR (m : Int)) = (runesOf L).drop k := by
        unfold runesOf
        rw [← hm4, ← runesL_shift]
        exact runesL_fuel _ _ _ _ (Nat.le_refl _) (by rw [List.length_drop]; omega)
      have hbl : (runesOf (L.drop m)).length = (runesOf L).length - k := by have := congrArg List.length hb; simpa using this
      rw [hat]
      refine Ev.ifn (by omega) (Ev.ifp (by omega) (Ev.ifp (by omega) (Ev.ifn (by omega) (Ev.succ ?_))))
      simp only [parquetrylaw01_RunesCuts.j1]
      rw [size_list, decide_eq_false (show ¬ (m : Int) > (L.length : Int) by omega)]
      refine Ev.ifn (by decide) (Ev.ifp (by omega) (Ev.ifp (by omega) ?_))
      rw [extract_list, extract_list, Int.toNat_natCast, List.drop_zero, Nat.sub_zero, List.take_of_length_le (show (L.drop m).length ≤ L.length - m by rw [List.length_drop]; omega)]
      refine Ev.bindc (split_eq (L.take m) (by rw [List.length_take]; omega)) (Ev.bindc (split_eq (L.drop m) (by rw [List.length_drop]; omega)) ?_)
      refine Ev.ifp (by rw [ha, List.length_take]; omega) (Ev.succ ?_)
      simp only [parquetrylaw01_RunesCuts.j2]
      have hne : (((runesOf (L.drop m)).length : Int) != wrap64 (((runesOf L).length : Int) - (k : Int))) = false := by
        rw [w64 (by omega) (by omega), hbl, bne_eq_false_iff_eq]
        omega
      rw [hne]
      refine Ev.ifn (by decide) ?_
      exact cuts_l0 L (by omega) (runesOf L) _ _ hlen k m hkl hm1 ha hb (f0_bound L (by omega)) (runesOf L) [] rfl
end Go.Proofs.Ytdelmgoapdajpaa.Pure
