/- The plain law of chapter 1's functions, over the printed Lean functions: what runes.Split, runes.Text, runes.Place, runes.Valid and the document's Split, Text answer, by one list of runes. Conditions: texts below 2^40 bytes. -/
import Derived.Test.YtgbkfjdkejjmpaaPC06x3
import Derived.Test.YtgbkfjdkejjmpaaPC06x13
import Derived.Test.YtgbkfjdkejjmpaaPC06x5
import Derived.Test.YtgbkfjdkejjmpaaPC06x5
import Derived.Test.YtgbkfjdkejjmpaaHEv
import Derived.Test.YtgbkfjdkejjmpaaHUtf
namespace Go.Proofs.Ytgbkfjdkejjmpaa.PC06.Q01
open Go.Proofs.Ytgbkfjdkejjmpaa.PC06
open Go.RowKit Go.Proofs.YtgbkfjdkejjmpaaW.PrintWords Go.Proofs.YtgbkfjdkejjmpaaW.PrintLast Go.Proofs.YtgbkfjdkejjmpaaW.PrintMore Go.Proofs.YtgbkfjdkejjmpaaH Go.Proofs.YtgbkfjdkejjmpaaU
set_option linter.unusedVariables false
set_option linter.unusedSimpArgs false
abbrev Rn := S37

/-- The runes of a list of bytes that begins at a place. -/
def runesL : Nat → List UInt8 → Nat → List Rn
  | 0, _, _ => []
  | k + 1, l, p => if l = [] then [] else (⟨(p : Int), ((decL l).2 : Int), ((decL l).1 : Int)⟩ : Rn) :: runesL k (l.drop (decL l).2) (p + (decL l).2)
theorem runesL_nil (k p : Nat) : runesL k [] p = [] := by cases k <;> simp [runesL]
theorem fix_nil (p : Int) : runes_Split.fix [] p = [] := rfl
theorem fix_snoc (y : List Rn) (z : Rn) (p : Int) : runes_Split.fix (y ++ [z]) p = y ++ [(⟨z.f0, wrap64 (p - z.f0), z.f2⟩ : Rn)] := by
  unfold runes_Split.fix
  rw [if_pos (by simp)]
  have h1 : (y ++ [z]).length - 1 = y.length := by simp
  have h2 : (y ++ [z]).getD y.length z37 = z := by simp [List.getD_eq_getElem?_getD]
  rw [h1, h2, List.set_append_right _ _ (Nat.le_refl _)]
  simp
theorem fix_length (x : List Rn) (p : Int) : (runes_Split.fix x p).length = x.length := by
  unfold runes_Split.fix
  split <;> simp
theorem split_l0 (L : List UInt8) (hL : L.length < 1000000000000) : ∀ (n k : Nat) (x : List Rn) (p : Nat), L.length - p ≤ n → n < k → p ≤ L.length → x.length ≤ p → runes_Split.fix x (L.length : Int) = x →
    runes_Split.l0 k ⟨⟨L⟩⟩ x p = some (runes_Split.fix x (p : Int) ++ runesL n (L.drop p) p) := by
  intro n
  induction n with
  | zero =>
    intro k x p h1 h2 h3 h4 h5
    obtain ⟨k, rfl⟩ : ∃ m, k = m + 1 := ⟨k - 1, by omega⟩
    have hp : p = L.length := by omega
    subst hp
    simp only [runes_Split.l0]
    rw [if_neg (by rw [size_list]; omega), h5]
    simp [runesL]
  | succ n ih =>
    intro k x p h1 h2 h3 h4 h5
    obtain ⟨k, rfl⟩ : ∃ m, k = m + 1 := ⟨k - 1, by omega⟩
    simp only [runes_Split.l0]
    by_cases hp : p < L.length
    · have hne : L.drop p ≠ [] := by
        intro h
        have := congrArg List.length h
        simp at this
        omega
      obtain ⟨d1, d2, d3, d4⟩ := decL_size (L.drop p) hne
      rw [List.length_drop] at d3
      rw [if_pos (by rw [size_list]; exact hp), if_pos (by rw [fix_length]; omega), decode_list L p h3, size_list]
      rw [ih k _ (p + (decL (L.drop p)).2) (by omega) (by omega) (by omega) (by rw [List.length_append, fix_length]; simp; omega) (by rw [fix_snoc])]
      rw [fix_snoc]
      simp only [runesL, if_neg hne, List.drop_drop]
      rw [show ((p + (decL (L.drop p)).2 : Nat) : Int) - (p : Int) = ((decL (L.drop p)).2 : Int) by omega, w64 (by omega) (by omega), List.append_assoc]
      rfl
    · have hp' : p = L.length := by omega
      subst hp'
      rw [if_neg (by rw [size_list]; omega), h5]
      rw [List.drop_eq_nil_of_le (Nat.le_refl _), runesL_nil, List.append_nil]
def runesOf (l : List UInt8) : List Rn := runesL l.length l 0
theorem split_eq (L : List UInt8) (hL : L.length < 1000000000000) : runes_Split.f ⟨⟨L⟩⟩ = some (runesOf L) := by
  unfold runes_Split.f
  rw [split_l0 L hL L.length _ [] 0 (by omega) (by rw [size_list]; omega) (by omega) (by simp) rfl]
  rfl

/-! the document's first, Bytes, Split -/
theorem list_of (s : ByteArray) : ∃ l, s = ⟨⟨l⟩⟩ := ⟨s.data.toList, rfl⟩
theorem bt_list (l : List UInt8) (i : Nat) (h : i < l.length) : bt ⟨⟨l⟩⟩ (i : Int) = ((l.getD i 0).toNat : Int) := by
  unfold bt
  rw [dif_pos (by rw [size_list]; simpa using h)]
  rw [List.getD_eq_getElem?_getD, List.getElem?_eq_getElem h]
  rfl
theorem extract_list (l : List UInt8) (p q : Nat) : (ByteArray.mk ⟨l⟩).extract p q = ⟨⟨(l.drop p).take (q - p)⟩⟩ := by
  rw [ByteArray.extract_mk]
theorem code_eq (c : Nat) : parquetryref01_Code.f (c : Int) = some (decide (okN c)) := by
  unfold parquetryref01_Code.f
  split
  · split
    · split
      · rw [decide_eq_true (show okN c by unfold okN; omega)]
      · congr 1
        rw [decide_eq_decide]
        unfold okN
        omega
    · rw [decide_eq_false (show ¬ okN c by unfold okN; omega)]
  · omega
def ints (l : List UInt8) : List Int := l.map fun b => (b.toNat : Int)
theorem strOf_ints (l : List UInt8) : strOfNums (ints l) = ⟨⟨l⟩⟩ := by
  unfold strOfNums ints
  congr 1
  rw [List.map_map]
  congr 1
  conv => rhs; rw [← List.map_id l]
  apply List.map_congr_left
  intro b _
  simp
theorem tdiv_nat (c d : Nat) : Int.tdiv (c : Int) (d : Int) = ((c / d : Nat) : Int) := by
  rw [Int.tdiv_eq_ediv_of_nonneg (by omega)]
  omega
theorem tmod_nat (c d : Nat) : Int.tmod (c : Int) (d : Int) = ((c % d : Nat) : Int) := by
  rw [Int.tmod_eq_emod_of_nonneg (by omega)]
  omega
theorem byte_int (n : Nat) (h : n < 256) : ((UInt8.ofNat n).toNat : Int) = (n : Int) := by rw [toNat_ofNat n h]
theorem bytes_j0 (c : Nat) (h : c ≤ 0x10FFFF) : Ev (fun k => parquetryref01_Bytes.j0 k (c : Int)) (ints (encN c)) := by
  refine Ev.succ ?_
  simp only [parquetryref01_Bytes.j0]
  have e1 : Int.tdiv (c : Int) 64 = ((c / 64 : Nat) : Int) := tdiv_nat c 64
  have e2 : Int.tmod (c : Int) 64 = ((c % 64 : Nat) : Int) := tmod_nat c 64
  have e3 : Int.tdiv (c : Int) 4096 = ((c / 4096 : Nat) : Int) := tdiv_nat c 4096
  have e4 : Int.tmod ((c / 64 : Nat) : Int) 64 = ((c / 64 % 64 : Nat) : Int) := tmod_nat (c / 64) 64
  have e5 : Int.tdiv (c : Int) 262144 = ((c / 262144 : Nat) : Int) := tdiv_nat c 262144
  have e6 : Int.tmod ((c / 4096 : Nat) : Int) 64 = ((c / 4096 % 64 : Nat) : Int) := tmod_nat (c / 4096) 64
  unfold encN
  by_cases h1 : c < 0x80
  · refine Ev.ifp (by omega) (Ev.val (Ev.now _) ?_)
    simp only [if_pos h1, ints, List.map_cons, List.map_nil, byte_int c (by omega)]
    rw [show (c : Int) % 256 = c by omega]
  · refine Ev.ifn (by omega) ?_
    by_cases h2 : c < 0x800
    · refine Ev.ifp (by omega) (Ev.val (Ev.now _) ?_)
      rw [if_neg h1, if_pos h2]
      simp only [ints, List.map_cons, List.map_nil, byte_int (0xC0 + c / 64) (by omega), byte_int (0x80 + c % 64) (by omega), e1, e2]
      rw [w64 (x := ((c / 64 : Nat) : Int)) (by omega) (by omega), w64 (by omega) (by omega), w64 (by omega) (by omega)]
      congr 1
      · omega
      · congr 1
        omega
    · refine Ev.ifn (by omega) ?_
      by_cases h3 : c < 0x10000
      · refine Ev.ifp (by omega) (Ev.val (Ev.now _) ?_)
        rw [if_neg h1, if_neg h2, if_pos h3]
        rw [e1, w64 (x := ((c / 64 : Nat) : Int)) (by omega) (by omega), e2, e3, e4, w64 (x := ((c / 4096 : Nat) : Int)) (by omega) (by omega), w64 (by omega) (by omega), w64 (by omega) (by omega), w64 (by omega) (by omega)]
        simp only [ints, List.map_cons, List.map_nil, byte_int (0xE0 + c / 4096) (by omega), byte_int (0x80 + c / 64 % 64) (by omega), byte_int (0x80 + c % 64) (by omega)]
        congr 1
        · omega
        · congr 1
          · omega
          · congr 1
            omega
      · refine Ev.ifn (by omega) (Ev.val (Ev.now _) ?_)
        rw [if_neg h1, if_neg h2, if_neg h3]
        rw [e1, w64 (x := ((c / 64 : Nat) : Int)) (by omega) (by omega), e2, e3, w64 (x := ((c / 4096 : Nat) : Int)) (by omega) (by omega), e4, e5, e6, w64 (x := ((c / 262144 : Nat) : Int)) (by omega) (by omega), w64 (by omega) (by omega), w64 (by omega) (by omega), w64 (by omega) (by omega), w64 (by omega) (by omega)]
        simp only [ints, List.map_cons, List.map_nil, byte_int (0xF0 + c / 262144) (by omega), byte_int (0x80 + c / 4096 % 64) (by omega), byte_int (0x80 + c / 64 % 64) (by omega), byte_int (0x80 + c % 64) (by omega)]
        congr 1
        · omega
        · congr 1
          · omega
          · congr 1
            · omega
            · congr 1
              omega
theorem bytes_ev (c : Nat) (h : okN c) : Ev (fun k => parquetryref01_Bytes.f k (c : Int)) (ints (encN c)) := by
  unfold parquetryref01_Bytes.f
  refine Ev.bindc (code_eq c) ?_
  rw [decide_eq_true h]
  exact Ev.ifp rfl (bytes_j0 c (by unfold okN at h; omega))
def res (l : List UInt8) (c n : Nat) : Int × Int := if n ≤ l.length ∧ okN c ∧ encN c = l.take n then ((c : Int), (n : Int)) else (65533, 1)
theorem first_j2 (l : List UInt8) (c n : Nat) : Ev (fun k => parquetryref01_first.j2 k ⟨⟨l⟩⟩ (c : Int) (n : Int)) (res l c n) := by
  refine Ev.succ ?_
  simp only [parquetryref01_first.j2]
  by_cases h1 : n ≤ l.length
  · refine Ev.ifp (by rw [size_list]; omega) (Ev.bindc (code_eq c) ?_)
    by_cases h2 : okN c
    · rw [decide_eq_true h2]
      refine Ev.ifp rfl (Ev.bind (bytes_ev c h2) (Ev.ifp (by omega) ?_))
      rw [strOf_ints, extract_list, Int.toNat_natCast, Lib.toList_data, Lib.toList_data, List.drop_zero, Nat.sub_zero]
      by_cases h3 : encN c = l.take n
      · refine Ev.ifp h3 (Ev.val (Ev.now _) ?_)
        unfold res
        rw [if_pos ⟨h1, h2, h3⟩]
      · refine Ev.ifn h3 (Ev.val (Ev.now _) ?_)
        unfold res
        rw [if_neg (fun h => h3 h.2.2)]
    · rw [decide_eq_false h2]
      refine Ev.ifn (by decide) (Ev.val (Ev.now _) ?_)
      unfold res
      rw [if_neg (fun h => h2 h.2.1)]
  · refine Ev.ifn (by rw [size_list]; omega) (Ev.val (Ev.now _) ?_)
    unfold res
    rw [if_neg (fun h => h1 h.1)]
def accC : Nat → List UInt8 → Nat → Nat
  | 0, _, c => c
  | _ + 1, [], c => c
  | m + 1, b :: r, c => accC m r (64 * c + b.toNat % 64)
theorem first_l0 (l : List UInt8) (hl : l.length < 1000000000000) (n : Nat) : ∀ (m i c : Nat), i + m = n → (c + 1) * 64 ^ m ≤ 1000000000000 → i ≤ l.length → n ≤ 4 →
    Ev (fun k => parquetryref01_first.l0 k ⟨⟨l⟩⟩ (c : Int) (n : Int) (i : Int)) (res l (accC m (l.drop i) c) n) := by
  intro m
  induction m with
  | zero =>
    intro i c h1 h2 h3 h4
    refine Ev.succ ?_
    simp only [parquetryref01_first.l0]
    refine Ev.ifn (by omega) ?_
    exact first_j2 l c n
  | succ m ih =>
    intro i c h1 h2 h3 h4
    refine Ev.succ ?_
    simp only [parquetryref01_first.l0]
    refine Ev.ifp (by omega) ?_
    by_cases hi : i < l.length
    · refine Ev.ifp (by rw [size_list]; omega) (Ev.ifp (by omega) ?_)
      have hb : (l.getD i 0).toNat < 256 := u8_lt _
      have hd : l.drop i = l.getD i 0 :: l.drop (i + 1) := by
        rw [List.drop_eq_getElem_cons hi, List.getD_eq_getElem?_getD, List.getElem?_eq_getElem hi]
        rfl
      have hc : (c + 1) * 64 ≤ 1000000000000 := by
        refine Nat.le_trans (Nat.mul_le_mul_left _ ?_) h2
        rw [Nat.pow_succ]
        have : 0 < 64 ^ m := Nat.pow_pos (by decide)
        omega
      rw [bt_list l i hi, hd]
      simp only [accC]
      have ht : Int.tmod ((l.getD i 0).toNat : Int) 64 = (((l.getD i 0).toNat % 64 : Nat) : Int) := tmod_nat _ 64
      generalize (l.getD i 0).toNat = b at *
      rw [w64 (x := (b : Int)) (by omega) (by omega), ht, w64 (x := 64 * (c : Int)) (by omega) (by omega), w64 (by omega) (by omega), w64 (by omega) (by omega)]
      have := ih (i + 1) (64 * c + b % 64) (by omega) (by
        refine Nat.le_trans (Nat.mul_le_mul_right _ (show 64 * c + b % 64 + 1 ≤ (c + 1) * 64 by omega)) ?_
        rw [Nat.mul_assoc, Nat.mul_comm 64, ← Nat.pow_succ]
        exact h2) (by omega) h4
      have e1 : (64 * (c : Int) + ((b % 64 : Nat) : Int)) = ((64 * c + b % 64 : Nat) : Int) := by omega
      have e2 : ((i : Int) + 1) = ((i + 1 : Nat) : Int) := by omega
      rw [e1, e2]
      exact this
    · refine Ev.ifn (by rw [size_list]; omega) ?_
      rw [List.drop_eq_nil_of_le (by omega)]
      exact first_j2 l c n
def lead (b : Nat) : Nat × Nat := if b ≥ 240 then (b - 240, 4) else if b ≥ 224 then (b - 224, 3) else if b ≥ 192 then (b - 192, 2) else (b, 1)
theorem first_res (b0 : UInt8) (t : List UInt8) (hl : t.length < 100000000000) :
    Ev (fun k => parquetryref01_first.f k ⟨⟨b0 :: t⟩⟩) (res (b0 :: t) (accC ((lead b0.toNat).2 - 1) t (lead b0.toNat).1) (lead b0.toNat).2) := by
  have hb := u8_lt b0
  have e0 : bt ⟨⟨b0 :: t⟩⟩ 0 = (b0.toNat : Int) := bt_list (b0 :: t) 0 (by simp)
  have hlen : (b0 :: t).length < 1000000000000 := by simp; omega
  unfold parquetryref01_first.f
  rw [e0, w64 (x := (b0.toNat : Int)) (by omega) (by omega)]
  refine Ev.ifp (by rw [size_list]; simp) ?_
  unfold lead
  by_cases h1 : b0.toNat ≥ 240
  · refine Ev.ifp (by omega) (Ev.succ ?_)
    simp only [parquetryref01_first.j0]
    rw [w64 (by omega) (by omega), show (b0.toNat : Int) - 240 = ((b0.toNat - 240 : Nat) : Int) by omega, if_pos h1]
    exact first_l0 (b0 :: t) hlen 4 3 1 (b0.toNat - 240) rfl (by omega) (by simp) (by omega)
  · refine Ev.ifn (by omega) ?_
    rw [if_neg h1]
    by_cases h2 : b0.toNat ≥ 224
    · refine Ev.ifp (by omega) (Ev.succ ?_)
      simp only [parquetryref01_first.j0]
      rw [w64 (by omega) (by omega), show (b0.toNat : Int) - 224 = ((b0.toNat - 224 : Nat) : Int) by omega, if_pos h2]
      exact first_l0 (b0 :: t) hlen 3 2 1 (b0.toNat - 224) rfl (by omega) (by simp) (by omega)
    · refine Ev.ifn (by omega) ?_
      rw [if_neg h2]
      by_cases h3 : b0.toNat ≥ 192
      · refine Ev.ifp (by omega) (Ev.succ ?_)
        simp only [parquetryref01_first.j0]
        rw [w64 (by omega) (by omega), show (b0.toNat : Int) - 192 = ((b0.toNat - 192 : Nat) : Int) by omega, if_pos h3]
        exact first_l0 (b0 :: t) hlen 2 1 1 (b0.toNat - 192) rfl (by omega) (by simp) (by omega)
      · refine Ev.ifn (by omega) (Ev.succ ?_)
        simp only [parquetryref01_first.j0]
        rw [if_neg h3]
        exact first_l0 (b0 :: t) hlen 1 0 1 b0.toNat rfl (by omega) (by simp) (by omega)
theorem lead_enc (c : Nat) (h : okN c) (r : List UInt8) : ∃ b0 t, encN c = b0 :: t ∧ (lead b0.toNat).2 = (encN c).length ∧ accC ((lead b0.toNat).2 - 1) (t ++ r) (lead b0.toNat).1 = c := by
  unfold okN at h
  unfold encN
  by_cases h1 : c < 0x80
  · rw [if_pos h1]
    refine ⟨_, _, rfl, ?_⟩
    rw [toNat_ofNat c (by omega)]
    unfold lead
    rw [if_neg (by omega), if_neg (by omega), if_neg (by omega)]
    exact ⟨rfl, rfl⟩
  · rw [if_neg h1]
    by_cases h2 : c < 0x800
    · rw [if_pos h2]
      refine ⟨_, _, rfl, ?_⟩
      rw [toNat_ofNat (0xC0 + c / 64) (by omega)]
      unfold lead
      rw [if_neg (by omega), if_neg (by omega), if_pos (by omega)]
      refine ⟨rfl, ?_⟩
      simp only [List.cons_append, List.nil_append, accC, toNat_ofNat (0x80 + c % 64) (by omega)]
      omega
    · rw [if_neg h2]
      by_cases h3 : c < 0x10000
      · rw [if_pos h3]
        refine ⟨_, _, rfl, ?_⟩
        rw [toNat_ofNat (0xE0 + c / 4096) (by omega)]
        unfold lead
        rw [if_neg (by omega), if_pos (by omega)]
        refine ⟨rfl, ?_⟩
        simp only [List.cons_append, List.nil_append, accC, toNat_ofNat (0x80 + c / 64 % 64) (by omega), toNat_ofNat (0x80 + c % 64) (by omega)]
        omega
      · rw [if_neg h3]
        refine ⟨_, _, rfl, ?_⟩
        rw [toNat_ofNat (0xF0 + c / 262144) (by omega)]
        unfold lead
        rw [if_pos (by omega)]
        refine ⟨rfl, ?_⟩
        simp only [List.cons_append, List.nil_append, accC, toNat_ofNat (0x80 + c / 4096 % 64) (by omega), toNat_ofNat (0x80 + c / 64 % 64) (by omega), toNat_ofNat (0x80 + c % 64) (by omega)]
        omega
theorem res_dec (b0 : UInt8) (t : List UInt8) : res (b0 :: t) (accC ((lead b0.toNat).2 - 1) t (lead b0.toNat).1) (lead b0.toNat).2 = (((decL (b0 :: t)).1 : Int), ((decL (b0 :: t)).2 : Int)) := by
  rcases decL_split (b0 :: t) (by simp) with ⟨h1, h2, h3⟩ | h
  · generalize hd : decL (b0 :: t) = d at *
    obtain ⟨c, n⟩ := d
    simp only at h1 h2 h3
    obtain ⟨e0, es, he, hlen, hacc⟩ := lead_enc c h1 ((b0 :: t).drop n)
    have h2' := h2
    rw [he, List.cons_append, List.cons.injEq] at h2'
    obtain ⟨e1, e2⟩ := h2'
    rw [← e1] at hlen hacc
    rw [← e2] at hacc
    rw [hacc, hlen]
    unfold res
    rw [if_pos]
    · rw [h3]
    · refine ⟨?_, h1, ?_⟩
      · have := congrArg List.length h2
        rw [List.length_append] at this
        omega
      · conv => rhs; rw [h2]
        rw [List.take_left]
  · generalize hc : accC ((lead b0.toNat).2 - 1) t (lead b0.toNat).1 = c
    generalize hn : (lead b0.toNat).2 = n
    unfold res
    by_cases hk : n ≤ (b0 :: t).length ∧ okN c ∧ encN c = (b0 :: t).take n
    · rw [if_pos hk]
      have := decL_of_prefix (b0 :: t) c hk.2.1 ((b0 :: t).drop n) (by rw [hk.2.2, List.take_append_drop])
      rw [this]
      have : (encN c).length = n := by rw [hk.2.2, List.length_take]; omega
      rw [this]
    · rw [if_neg hk, h]
      rfl
theorem first_ev (l : List UInt8) (hl : l.length < 100000000000) (hne : l ≠ []) : Ev (fun k => parquetryref01_first.f k ⟨⟨l⟩⟩) (((decL l).1 : Int), ((decL l).2 : Int)) := by
  obtain ⟨b0, t, rfl⟩ : ∃ b0 t, l = b0 :: t := by cases l with | nil => exact absurd rfl hne | cons a t => exact ⟨a, t, rfl⟩
  rw [← res_dec b0 t]
  exact first_res b0 t (by simp at hl; omega)
theorem refSplit_l0 (L : List UInt8) (hL : L.length < 10000000000) : ∀ (n p : Nat) (x : List Rn), L.length - p ≤ n → p ≤ L.length → x.length ≤ p →
    Ev (fun k => parquetryref01_Split.l0 k ⟨⟨L⟩⟩ x (p : Int)) (x ++ runesL n (L.drop p) p) := by
  intro n
  induction n with
  | zero =>
    intro p x h1 h2 h3
    refine Ev.succ ?_
    simp only [parquetryref01_Split.l0]
    refine Ev.ifn (by rw [size_list]; omega) (Ev.val (Ev.now _) ?_)
    simp [runesL]
  | succ n ih =>
    intro p x h1 h2 h3
    refine Ev.succ ?_
    simp only [parquetryref01_Split.l0]
    by_cases hp : p < L.length
    · have hne : L.drop p ≠ [] := by
        intro h
        have := congrArg List.length h
        simp at this
        omega
      obtain ⟨d1, d2, d3, d4⟩ := decL_size (L.drop p) hne
      rw [List.length_drop] at d3
      refine Ev.ifp (by rw [size_list]; omega) (Ev.ifp (by omega) (Ev.ifp (by rw [size_list]; omega) ?_))
      rw [extract_list, Int.toNat_natCast, size_list, List.take_of_length_le (by rw [List.length_drop]; omega)]
      refine Ev.bind (first_ev (L.drop p) (by rw [List.length_drop]; omega) hne) (Ev.ifp (by omega) ?_)
      rw [w64 (by omega) (by omega), show (p : Int) + ((decL (L.drop p)).2 : Int) = ((p + (decL (L.drop p)).2 : Nat) : Int) by omega]
      refine Ev.val (ih (p + (decL (L.drop p)).2) _ (by omega) (by omega) (by rw [List.length_append]; simp; omega)) ?_
      simp only [runesL, if_neg hne, List.drop_drop, List.append_assoc]
      rfl
    · refine Ev.ifn (by rw [size_list]; omega) (Ev.val (Ev.now _) ?_)
      rw [List.drop_eq_nil_of_le (by omega), runesL_nil, List.append_nil]
theorem refSplit_ev (L : List UInt8) (hL : L.length < 10000000000) : Ev (fun k => parquetryref01_Split.f k ⟨⟨L⟩⟩) (runesOf L) := by
  unfold parquetryref01_Split.f
  exact refSplit_l0 L hL L.length 0 [] (by omega) (by omega) (by simp)
end Go.Proofs.Ytgbkfjdkejjmpaa.PC06.Q01
