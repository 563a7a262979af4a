/- The plain law of chapter 1's lists of runes: how they lie, what the text of numbers is, where a list of bytes may be cut; and what runes.Valid, runes.Place, runes.Text answer. Conditions: texts below 2^30 bytes. -/
import Derived.Test.YtdelmgoapdajpaaHP01
namespace Go.Proofs.Ytdelmgoapdajpaa.PC01
open Go.RowKit Go.Proofs.YtdelmgoapdajpaaW.PrintWords Go.Proofs.YtdelmgoapdajpaaW.PrintLast Go.Proofs.YtdelmgoapdajpaaW.PrintMore Go.Proofs.YtdelmgoapdajpaaH Go.Proofs.YtdelmgoapdajpaaU
set_option linter.unusedVariables false
set_option linter.unusedSimpArgs false

/-- Runes follow one another from a place to another one. -/
def Chain : Int → List Rn → Int → Prop
  | p, [], e => p = e
  | p, x :: xs, e => x.f0 = p ∧ 1 ≤ x.f1 ∧ x.f1 ≤ 4 ∧ 0 ≤ x.f2 ∧ x.f2 ≤ 1114111 ∧ Chain (p + x.f1) xs e
theorem runesL_cons (n : Nat) (l : List UInt8) (hne : l ≠ []) (p : Nat) : runesL (n + 1) l p = (⟨(p : Int), ((decL l).2 : Int), ((decL l).1 : Int)⟩ : Rn) :: runesL n (l.drop (decL l).2) (p + (decL l).2) := by
  simp only [runesL, if_neg hne]
theorem chain_runes : ∀ (n : Nat) (l : List UInt8) (p : Nat), l.length ≤ n → Chain (p : Int) (runesL n l p) ((p + l.length : Nat) : Int)
  | 0, l, p, h => by
    obtain rfl : l = [] := List.eq_nil_of_length_eq_zero (by omega)
    simp [runesL, Chain]
  | n + 1, l, p, h => by
    by_cases hne : l = []
    · subst hne
      rw [runesL_nil]
      simp [Chain]
    · rw [runesL_cons n l hne]
      obtain ⟨d1, d2, d3, d4⟩ := decL_size l hne
      have := chain_runes n (l.drop (decL l).2) (p + (decL l).2) (by rw [List.length_drop]; omega)
      rw [List.length_drop, show p + (decL l).2 + (l.length - (decL l).2) = p + l.length by omega] at this
      unfold okN at d4
      refine ⟨rfl, by show 1 ≤ ((decL l).2 : Int); omega, by show ((decL l).2 : Int) ≤ 4; omega, by show 0 ≤ ((decL l).1 : Int); omega, by show ((decL l).1 : Int) ≤ 1114111; omega, ?_⟩
      have e : (p : Int) + ((decL l).2 : Int) = ((p + (decL l).2 : Nat) : Int) := by omega
      show Chain ((p : Int) + ((decL l).2 : Int)) _ _
      rw [e]
      exact this
theorem chain_le : ∀ (xs : List Rn) (p e : Int), Chain p xs e → p + xs.length ≤ e
  | [], p, e, h => by simp [Chain] at h; simp; omega
  | x :: xs, p, e, h => by
    obtain ⟨h1, h2, h3, h4, h5, h6⟩ := h
    have := chain_le xs _ _ h6
    simp only [List.length_cons]
    omega
theorem chain_gt : ∀ (xs : List Rn) (p e : Int), Chain p xs e → ∀ y ∈ xs, p ≤ y.f0
  | [], p, e, h, y, hy => by simp at hy
  | x :: xs, p, e, h, y, hy => by
    obtain ⟨h1, h2, h3, h4, h5, h6⟩ := h
    rcases List.mem_cons.1 hy with rfl | hy
    · omega
    · have := chain_gt xs _ _ h6 y hy
      omega
theorem chain_of (l : List UInt8) : Chain 0 (runesOf l) (l.length : Int) := by
  have := chain_runes l.length l 0 (Nat.le_refl _)
  simpa [runesOf] using this
theorem runesOf_len (l : List UInt8) : (runesOf l).length ≤ l.length := by
  have := chain_le _ _ _ (chain_of l)
  omega
theorem rd_at (pre : List Rn) (x : Rn) (r : List Rn) : rd_T27 (pre ++ x :: r) (pre.length : Int) = x := by
  unfold rd_T27
  rw [Int.toNat_natCast, List.getD_eq_getElem?_getD, List.getElem?_append_right (Nat.le_refl _), Nat.sub_self]
  rfl
/-- Fuel beyond what is wanted changes nothing. -/
theorem runesL_fuel : ∀ (n m : Nat) (l : List UInt8) (p : Nat), l.length ≤ n → l.length ≤ m → runesL n l p = runesL m l p
  | 0, m, l, p, h, _ => by
    obtain rfl : l = [] := List.eq_nil_of_length_eq_zero (by omega)
    rw [runesL_nil, runesL_nil]
  | n + 1, 0, l, p, _, h => by
    obtain rfl : l = [] := List.eq_nil_of_length_eq_zero (by omega)
    rw [runesL_nil, runesL_nil]
  | n + 1, m + 1, l, p, h1, h2 => by
    by_cases hne : l = []
    · subst hne
      rw [runesL_nil, runesL_nil]
    · rw [runesL_cons n l hne, runesL_cons m l hne]
      obtain ⟨d1, d2, d3, d4⟩ := decL_size l hne
      rw [runesL_fuel n m _ _ (by rw [List.length_drop]; omega) (by rw [List.length_drop]; omega)]

/-! runes.Valid -/
def oddR (x : Rn) : Bool := decide (x.f2 = 65533 ∧ x.f1 = 1)
theorem valid_l0 (xs : List Rn) (hx : xs.length < 10000000000) : ∀ (r pre : List Rn), xs = pre ++ r → Ev (fun k => runes_Valid.l0 k xs (xs.length : Int) (pre.length : Int)) (r.all fun x => !oddR x)
  | [], pre, h => by
    refine Ev.succ ?_
    simp only [runes_Valid.l0]
    refine Ev.ifn (by rw [h]; simp) (Ev.val (Ev.now _) rfl)
  | x :: r, pre, h => by
    have hl : xs.length = pre.length + (r.length + 1) := by rw [h]; simp
    have hrd : rd_T27 xs (pre.length : Int) = x := by rw [h]; exact rd_at pre x r
    have ih := valid_l0 xs hx r (pre ++ [x]) (by rw [h]; simp)
    have e : wrap64 ((pre.length : Int) + 1) = ((pre ++ [x]).length : Int) := by rw [w64 (by omega) (by omega)]; simp
    refine Ev.succ ?_
    simp only [runes_Valid.l0]
    refine Ev.ifp (by omega) (Ev.ifp (by omega) (Ev.ifp (by omega) ?_))
    rw [hrd, e]
    rw [List.all_cons]
    by_cases h1 : x.f2 = 65533
    · refine Ev.ifp h1 ?_
      by_cases h2 : x.f1 = 1
      · refine Ev.ifp h2 (Ev.val (Ev.now _) ?_)
        rw [show oddR x = true from decide_eq_true ⟨h1, h2⟩]
        rfl
      · refine Ev.ifn h2 (Ev.val ih ?_)
        rw [show oddR x = false from decide_eq_false (fun h => h2 h.2)]
        rfl
    · refine Ev.ifn h1 (Ev.val ih ?_)
      rw [show oddR x = false from decide_eq_false (fun h => h1 h.1)]
      rfl
def validL (l : List UInt8) : Bool := (runesOf l).all fun x => !oddR x
theorem valid_ev (L : List UInt8) (hL : L.length < 1000000000) : Ev (fun k => runes_Valid.f k ⟨⟨L⟩⟩) (validL L) := by
  unfold runes_Valid.f
  refine Ev.bindc (split_eq L (by omega)) ?_
  have := runesOf_len L
  exact valid_l0 (runesOf L) (by omega) (runesOf L) [] rfl

/-! runes.Place -/
def findAt : List Rn → Int → Int → Int × Bool
  | [], _, _ => (0, false)
  | x :: xs, a, i => if x.f0 = a then (i, true) else findAt xs a (i + 1)
theorem place_l0 (L : List UInt8) (hL : L.length < 1000000000) (a : Int) : ∀ (n k : Nat) (p : Nat) (i : Int), L.length - p ≤ n → n < k → p ≤ L.length → 0 ≤ i → i ≤ p →
    runes_Place.l0 k ⟨⟨L⟩⟩ a p i = some (findAt (runesL n (L.drop p) p) a i) := by
  intro n
  induction n with
  | zero =>
    intro k p i h1 h2 h3 h4 h5
    obtain ⟨k, rfl⟩ : ∃ m, k = m + 1 := ⟨k - 1, by omega⟩
    simp only [runes_Place.l0]
    rw [if_neg (by rw [size_list]; omega)]
    simp [runesL, findAt]
  | succ n ih =>
    intro k p i h1 h2 h3 h4 h5
    obtain ⟨k, rfl⟩ : ∃ m, k = m + 1 := ⟨k - 1, by omega⟩
    simp only [runes_Place.l0]
    by_cases hp : p < L.length
    · have hne : L.drop p ≠ [] := by
        intro h
        have := congrArg List.length h
        simp at this
        omega
      obtain ⟨d1, d2, d3, d4⟩ := decL_size (L.drop p) hne
      rw [List.length_drop] at d3
      rw [if_pos (by rw [size_list]; exact hp), decode_list L p h3, runesL_cons n _ hne]
      simp only [findAt]
      by_cases ha : (p : Int) = a
      · rw [if_pos ha, if_pos ha]
      · rw [if_neg ha, if_neg ha, w64 (by omega) (by omega), ih k _ _ (by omega) (by omega) (by omega) (by omega) (by omega), List.drop_drop]
    · rw [if_neg (by rw [size_list]; omega), List.drop_eq_nil_of_le (by omega), runesL_nil]
      rfl
theorem place_eq (L : List UInt8) (hL : L.length < 1000000000) (a : Int) : runes_Place.f ⟨⟨L⟩⟩ a = some (findAt (runesOf L) a 0) := by
  unfold runes_Place.f
  rw [place_l0 L hL a L.length _ 0 0 (by omega) (by rw [size_list]; omega) (by omega) (by omega) (by omega)]
  rfl
theorem findAt_hit : ∀ (pre : List Rn) (x : Rn) (r : List Rn) (a i : Int), (∀ y ∈ pre, y.f0 ≠ a) → x.f0 = a → findAt (pre ++ x :: r) a i = (i + pre.length, true)
  | [], x, r, a, i, _, h => by
    simp [findAt, h]
  | y :: pre, x, r, a, i, hp, h => by
    simp only [List.cons_append, findAt]
    rw [if_neg (hp y (by simp)), findAt_hit pre x r a (i + 1) (fun z hz => hp z (by simp [hz])) h]
    simp only [List.length_cons]
    congr 1
    omega

/-! texts of numbers -/
/-- A code point's number; FFFD's of what is none. -/
def codeOf (c : Int) : Nat := if Utf8.valid c = true then c.toNat else 0xFFFD
theorem codeOf_ok (c : Int) : okN (codeOf c) := by
  unfold codeOf
  split
  · rename_i h
    have h0 : 0 ≤ c := by
      rcases Int.lt_or_le c 0 with h1 | h1
      · rw [valid_neg c h1] at h
        cases h
      · exact h1
    exact (valid_iff c.toNat).1 (by rw [Int.toNat_of_nonneg h0]; exact h)
  · decide
theorem codeOf_nat (c : Nat) (h : okN c) : codeOf (c : Int) = c := by
  unfold codeOf
  rw [if_pos ((valid_iff c).2 h), Int.toNat_natCast]
theorem encode_codeOf (c : Int) : Utf8.encode c = ⟨⟨encN (codeOf c)⟩⟩ := by
  by_cases h : Utf8.valid c = true
  · have h0 : 0 ≤ c := by
      rcases Int.lt_or_le c 0 with h1 | h1
      · rw [valid_neg c h1] at h
        cases h
      · exact h1
    obtain ⟨n, rfl⟩ := Int.eq_ofNat_of_zero_le h0
    have := (valid_iff n).1 h
    rw [codeOf_nat n this]
    exact encode_ok n this
  · rw [encode_odd c (by simpa using h)]
    unfold codeOf
    rw [if_neg h]
def textL (l : List Int) : List UInt8 := l.flatMap fun c => encN (codeOf c)
theorem app_list (a b : List UInt8) : (ByteArray.mk ⟨a⟩) ++ (ByteArray.mk ⟨b⟩) = ⟨⟨a ++ b⟩⟩ := by
  apply ByteArray.ext
  rw [ByteArray.data_append]
  simp
theorem runesBytes_list (l : List Int) : runesBytes l = ⟨⟨textL l⟩⟩ := by
  have key : ∀ (l : List Int) (a : List UInt8), l.foldl (fun r n => r ++ Utf8.encode n) (ByteArray.mk ⟨a⟩) = ⟨⟨a ++ textL l⟩⟩ := by
    intro l
    induction l with
    | nil => intro a; simp [textL]
    | cons c l ih =>
      intro a
      rw [List.foldl_cons, encode_codeOf, app_list, ih]
      simp [textL]
  unfold runesBytes
  exact (key l []).trans (by simp)
def fitc (c : Int) : Int := if 0 ≤ c ∧ c ≤ 1114111 then c else 65533
theorem codeOf_fitc (c : Int) : codeOf (fitc c) = codeOf c := by
  unfold fitc
  split
  · rfl
  · rename_i h
    have : Utf8.valid c = false := by
      unfold Utf8.valid
      simp only [Bool.or_eq_false_iff, Bool.and_eq_false_iff, decide_eq_false_iff_not]
      omega
    unfold codeOf
    rw [this]
    rfl
theorem textL_fitc (l : List Int) : textL (l.map fitc) = textL l := by
  unfold textL
  rw [List.flatMap_map]
  congr 1
  funext c
  rw [codeOf_fitc]
theorem rd_int (pre : List Int) (x : Int) (r : List Int) : rd (pre ++ x :: r) (pre.length : Int) = x := by
  unfold rd
  rw [Int.toNat_natCast, List.getD_eq_getElem?_getD, List.getElem?_append_right (Nat.le_refl _), Nat.sub_self]
  rfl
theorem set_mid (pre : List Int) (x y : Int) (r : List Int) (n : Nat) (h : n = pre.length) : (pre ++ x :: r).set n y = pre ++ y :: r := by
  subst h
  rw [List.set_append_right _ _ (Nat.le_refl _), Nat.sub_self]
  rfl
theorem text_l0 (l : List Int) (hl : l.length < 10000000000) : ∀ (r pre : List Int), l = pre ++ r → Ev (fun k => runes_Text.l0 k (pre.map fitc ++ List.replicate r.length 0) l (l.length : Int) (pre.length : Int)) ⟨⟨textL l⟩⟩
  | [], pre, h => by
    refine Ev.succ ?_
    simp only [runes_Text.l0]
    refine Ev.ifn (by rw [h]; simp) (Ev.val (Ev.now _) ?_)
    rw [runesBytes_list, h]
    simp only [List.length_nil, List.replicate_zero, List.append_nil]
    rw [textL_fitc]
  | x :: r, pre, h => by
    have hlen : l.length = pre.length + (r.length + 1) := by rw [h]; simp
    have ih := text_l0 l hl r (pre ++ [x]) (by rw [h]; simp)
    have hrd : rd l (pre.length : Int) = x := by rw [h]; exact rd_int pre x r
    have e : wrap64 ((pre.length : Int) + 1) = ((pre ++ [x]).length : Int) := by rw [w64 (by omega) (by omega)]; simp
    have e2 : (pre ++ [x]).map fitc ++ List.replicate r.length 0 = pre.map fitc ++ fitc x :: List.replicate r.length 0 := by simp
    rw [e2] at ih
    refine Ev.succ ?_
    simp only [runes_Text.l0]
    refine Ev.ifp (by omega) (Ev.ifp (by omega) (Ev.ifp (by omega) (Ev.ifp (by simp; omega) ?_)))
    refine Ev.bindc rfl ?_
    rw [hrd, e, Int.toNat_natCast, List.length_cons, List.replicate_succ, set_mid _ _ _ _ _ (by simp)]
    unfold fitc at ih ⊢
    by_cases h1 : x ≥ 0
    · refine Ev.ifp h1 ?_
      by_cases h2 : x ≤ 1114111
      · refine Ev.ifp h2 ?_
        rw [set_mid _ _ _ _ _ (by simp), w32 (by omega) (by omega)]
        rw [if_pos ⟨h1, h2⟩] at ih
        exact ih
      · refine Ev.ifn h2 ?_
        rw [if_neg (by omega)] at ih
        exact ih
    · refine Ev.ifn h1 ?_
      rw [if_neg (by omega)] at ih
      exact ih
theorem text_ev (l : List Int) (hl : l.length < 10000000000) : Ev (fun k => runes_Text.f k l) ⟨⟨textL l⟩⟩ := by
  unfold runes_Text.f
  refine Ev.ifp (by omega) (Ev.ifp (by omega) ?_)
  rw [Int.toNat_natCast]
  exact text_l0 l hl l [] rfl
theorem refBytes_ev (c : Int) : Ev (fun k => parquetryref01_Bytes.f k c) (ints (encN (codeOf c))) := by
  by_cases h : Utf8.valid c = true
  · have h0 : 0 ≤ c := by
      rcases Int.lt_or_le c 0 with h1 | h1
      · rw [valid_neg c h1] at h
        cases h
      · exact h1
    obtain ⟨n, rfl⟩ := Int.eq_ofNat_of_zero_le h0
    have := (valid_iff n).1 h
    rw [codeOf_nat n this]
    exact bytes_ev n this
  · have hc : parquetryref01_Code.f c = some false := by
      rcases Int.lt_or_le c 0 with h1 | h1
      · unfold parquetryref01_Code.f
        rw [if_neg (by omega)]
      · obtain ⟨n, rfl⟩ := Int.eq_ofNat_of_zero_le h1
        rw [code_eq, decide_eq_false (fun hk => h ((valid_iff n).2 hk))]
    unfold parquetryref01_Bytes.f codeOf
    rw [if_neg h]
    refine Ev.bindc hc (Ev.ifn (by decide) ?_)
    exact bytes_j0 65533 (by decide)
theorem ints_append (a b : List UInt8) : ints (a ++ b) = ints a ++ ints b := by simp [ints]
theorem ints_length (a : List UInt8) : (ints a).length = a.length := by simp [ints]
theorem encN_le (c : Nat) : (encN c).length ≤ 4 := (encN_len c).2
theorem textL_len (l : List Int) : (textL l).length ≤ 4 * l.length := by
  induction l with
  | nil => simp [textL]
  | cons c l ih =>
    have := encN_le (codeOf c)
    simp only [textL, List.flatMap_cons, List.length_append, List.length_cons] at *
    omega
theorem textL_append (a b : List Int) : textL (a ++ b) = textL a ++ textL b := by simp [textL]
theorem refText_l0 (l : List Int) (hl : l.length < 1000000000) : ∀ (r pre : List Int), l = pre ++ r → Ev (fun k => parquetryref01_Text.l0 k l (ints (textL pre)) (pre.length : Int)) ⟨⟨textL l⟩⟩
  | [], pre, h => by
    refine Ev.succ ?_
    simp only [parquetryref01_Text.l0]
    refine Ev.ifn (by rw [h]; simp) (Ev.val (Ev.now _) ?_)
    rw [strOf_ints, h]
    simp
  | x :: r, pre, h => by
    have hlen : l.length = pre.length + (r.length + 1) := by rw [h]; simp
    have ih := refText_l0 l hl r (pre ++ [x]) (by rw [h]; simp)
    have hrd : rd l (pre.length : Int) = x := by rw [h]; exact rd_int pre x r
    have e : wrap64 ((pre.length : Int) + 1) = ((pre ++ [x]).length : Int) := by rw [w64 (by omega) (by omega)]; simp
    have h4 := textL_len pre
    have h5 := encN_le (codeOf x)
    refine Ev.succ ?_
    simp only [parquetryref01_Text.l0]
    refine Ev.ifp (by omega) (Ev.ifp (by omega) ?_)
    rw [hrd, e]
    refine Ev.bind (refBytes_ev x) (Ev.ifp (by rw [ints_length, ints_length]; omega) ?_)
    rw [← ints_append]
    rw [textL_append] at ih
    simpa [textL] using ih
theorem refText_ev (l : List Int) (hl : l.length < 1000000000) : Ev (fun k => parquetryref01_Text.f k l) ⟨⟨textL l⟩⟩ := by
  unfold parquetryref01_Text.f
  exact refText_l0 l hl l [] rfl

/-! the chapter's examples -/
set_option maxRecDepth 100000 in
theorem awake_ev : Ev (fun k => parquetrylaw01_awake.f k) true := by
  unfold parquetrylaw01_awake.f
  refine Ev.bindc (split_eq [97, 195, 169] (by decide)) (Ev.bindc (split_eq [226, 130, 97] (by decide)) (Ev.bindc (place_eq [97, 195, 169, 98] (by decide) 3) (Ev.bindc (place_eq [97, 195, 169, 98] (by decide) 2) ?_)))
  refine Ev.ifp (by decide) (Ev.ifp (by decide) (Ev.ifp (by decide) (Ev.ifp (by decide) (Ev.ifp (by decide) (Ev.ifp (by decide) ?_)))))
  refine Ev.bind (text_ev [8364] (by decide)) ?_
  refine Ev.ifp (by rw [Lib.toList_data]; decide) ?_
  refine Ev.bind (text_ev [-1] (by decide)) ?_
  refine Ev.ifp (by rw [Lib.toList_data]; decide) ?_
  refine Ev.ifp (by decide) (Ev.ifp (by decide) (Ev.ifn (by decide) ?_))
  refine Ev.bind (valid_ev [239, 191, 189] (by decide)) (Ev.ifp (by decide) ?_)
  refine Ev.bind (valid_ev [192, 128] (by decide)) (Ev.val (Ev.now _) (by decide))
end Go.Proofs.Ytdelmgoapdajpaa.PC01
