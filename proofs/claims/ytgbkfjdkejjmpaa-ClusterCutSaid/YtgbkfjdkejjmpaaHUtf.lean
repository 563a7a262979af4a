/- The plain law of UTF-8 as the model reads and writes it: a code point's bytes are read back as it, with their number; and what is read is a code point's bytes, or one odd byte. Conditions: none. -/
import GoSem.Core.Utf8
import Derived.Lib.Strings
namespace Go.Proofs.YtgbkfjdkejjmpaaU
open Go

/-- The bytes of a number, as a list. -/
def encN (c : Nat) : List UInt8 :=
  if c < 0x80 then [UInt8.ofNat c]
  else if c < 0x800 then [UInt8.ofNat (0xC0 + c / 64), UInt8.ofNat (0x80 + c % 64)]
  else if c < 0x10000 then [UInt8.ofNat (0xE0 + c / 4096), UInt8.ofNat (0x80 + c / 64 % 64), UInt8.ofNat (0x80 + c % 64)]
  else [UInt8.ofNat (0xF0 + c / 262144), UInt8.ofNat (0x80 + c / 4096 % 64), UInt8.ofNat (0x80 + c / 64 % 64), UInt8.ofNat (0x80 + c % 64)]
def okN (c : Nat) : Prop := c < 0xD800 ∨ (0xE000 ≤ c ∧ c ≤ 0x10FFFF)
instance (c : Nat) : Decidable (okN c) := by unfold okN; infer_instance
theorem valid_iff (c : Nat) : Utf8.valid (c : Int) = true ↔ okN c := by
  simp only [Utf8.valid, okN, Bool.or_eq_true, Bool.and_eq_true, decide_eq_true_eq]
  omega
theorem encode_ok (c : Nat) (h : okN c) : Utf8.encode (c : Int) = ⟨⟨encN c⟩⟩ := by
  unfold Utf8.encode encN
  rw [if_pos ((valid_iff c).2 h)]
  simp only [Int.toNat_natCast]
  repeat' split
  all_goals rfl
theorem valid_neg (c : Int) (h : c < 0) : Utf8.valid c = false := by
  unfold Utf8.valid
  rw [decide_eq_false (show ¬ (0 : Int) ≤ c by omega), decide_eq_false (show ¬ (0xE000 : Int) ≤ c by omega)]
  rfl
theorem encode_odd (c : Int) (h : Utf8.valid c = false) : Utf8.encode c = ⟨⟨encN 0xFFFD⟩⟩ := by
  unfold Utf8.encode
  simp only [h, Bool.false_eq_true, if_false]
  rfl

/-- A code point, read at the head of a list of bytes. -/
def decL (l : List UInt8) : Nat × Nat := Utf8.decode ⟨⟨l⟩⟩ 0
theorem get_list (l : List UInt8) (i : Nat) : (ByteArray.mk ⟨l⟩).get! i = l.getD i 0 := by
  show (Array.mk l)[i]! = _
  rw [getElem!_def, List.getD_eq_getElem?_getD]
  simp only [List.getElem?_toArray]
  cases l[i]? <;> rfl
theorem toNat_ofNat (n : Nat) (h : n < 256) : (UInt8.ofNat n).toNat = n := by
  simp [UInt8.toNat_ofNat', Nat.mod_eq_of_lt h]
theorem size_list (l : List UInt8) : (ByteArray.mk ⟨l⟩).size = l.length := rfl
theorem decode_list (l : List UInt8) (p : Nat) (hp : p ≤ l.length) : Utf8.decode ⟨⟨l⟩⟩ p = decL (l.drop p) := by
  unfold decL Utf8.decode
  simp only [get_list, size_list, List.length_drop, Nat.zero_add, List.getD_eq_getElem?_getD, List.getElem?_drop]
  have e : ∀ k, decide (p + k < l.length) = decide (k < l.length - p) := fun k => by rw [decide_eq_decide]; omega
  simp only [e]
theorem getD0 (a : UInt8) (l : List UInt8) : (a :: l).getD 0 0 = a := rfl
theorem getD1 (a b : UInt8) (l : List UInt8) : (a :: b :: l).getD 1 0 = b := rfl
theorem getD2 (a b c : UInt8) (l : List UInt8) : (a :: b :: c :: l).getD 2 0 = c := rfl
theorem getD3 (a b c d : UInt8) (l : List UInt8) : (a :: b :: c :: d :: l).getD 3 0 = d := rfl
/-- A code point's bytes are read back. -/
theorem decL_enc (c : Nat) (h : okN c) (r : List UInt8) : decL (encN c ++ r) = (c, (encN c).length) := by
  unfold okN at h
  unfold decL Utf8.decode
  simp only [get_list, size_list, Nat.zero_add]
  unfold encN
  by_cases h1 : c < 0x80
  · simp only [if_pos h1, List.cons_append, List.nil_append, getD0, toNat_ofNat c (by omega), List.length_cons, List.length_nil]
  · by_cases h2 : c < 0x800
    · simp only [if_neg h1, if_pos h2, List.cons_append, List.nil_append, getD0, getD1, toNat_ofNat (0xC0 + c / 64) (by omega), toNat_ofNat (0x80 + c % 64) (by omega), List.length_cons, List.length_nil]
      rw [if_neg (by omega), if_pos (by simp; omega), if_pos (by omega)]
      congr 1
      omega
    · by_cases h3 : c < 0x10000
      · simp only [if_neg h1, if_neg h2, if_pos h3, List.cons_append, List.nil_append, getD0, getD1, getD2, toNat_ofNat (0xE0 + c / 4096) (by omega), toNat_ofNat (0x80 + c / 64 % 64) (by omega), toNat_ofNat (0x80 + c % 64) (by omega), List.length_cons, List.length_nil]
        rw [if_neg (by omega), if_neg (by simp; omega), if_pos (by simp; omega)]
        have e : (0xE0 + c / 4096) % 16 * 4096 + (0x80 + c / 64 % 64) % 64 * 64 + (0x80 + c % 64) % 64 = c := by omega
        rw [e, if_pos]
        rw [Bool.and_eq_true, decide_eq_true_eq]
        exact ⟨by omega, (valid_iff c).2 (by unfold okN; omega)⟩
      · simp only [if_neg h1, if_neg h2, if_neg h3, List.cons_append, List.nil_append, getD0, getD1, getD2, getD3, toNat_ofNat (0xF0 + c / 262144) (by omega), toNat_ofNat (0x80 + c / 4096 % 64) (by omega), toNat_ofNat (0x80 + c / 64 % 64) (by omega), toNat_ofNat (0x80 + c % 64) (by omega), List.length_cons, List.length_nil]
        rw [if_neg (by omega), if_neg (by simp; omega), if_neg (by simp; omega), if_pos (by simp; omega)]
        have e : (0xF0 + c / 262144) % 8 * 262144 + (0x80 + c / 4096 % 64) % 64 * 4096 + (0x80 + c / 64 % 64) % 64 * 64 + (0x80 + c % 64) % 64 = c := by omega
        rw [e, if_pos]
        rw [Bool.and_eq_true, decide_eq_true_eq]
        exact ⟨by omega, (valid_iff c).2 (by unfold okN; omega)⟩
theorem u8_eq {n : Nat} {b : UInt8} (h : n = b.toNat) : UInt8.ofNat n = b := by
  subst h
  exact UInt8.ofNat_toNat
theorem u8_lt (b : UInt8) : b.toNat < 256 := b.toNat_lt
theorem two_of : ∀ (t : List UInt8), 1 < t.length → ∃ a b r, t = a :: b :: r
  | [], h => by simp at h
  | [_], h => by simp at h
  | a :: b :: r, _ => ⟨a, b, r, rfl⟩
theorem three_of : ∀ (t : List UInt8), 2 < t.length → ∃ a b c r, t = a :: b :: c :: r
  | [], h => by simp at h
  | [_], h => by simp at h
  | [_, _], h => by simp at h
  | a :: b :: c :: r, _ => ⟨a, b, c, r, rfl⟩
set_option maxRecDepth 20000 in
/-- What is read is a code point's bytes, or one odd byte. -/
theorem decL_split (l : List UInt8) (hl : l ≠ []) : (okN (decL l).1 ∧ l = encN (decL l).1 ++ l.drop (decL l).2 ∧ (decL l).2 = (encN (decL l).1).length) ∨ decL l = (0xFFFD, 1) := by
  obtain ⟨b0, t, rfl⟩ : ∃ b0 t, l = b0 :: t := by cases l with | nil => exact absurd rfl hl | cons a t => exact ⟨a, t, rfl⟩
  have k0 := u8_lt b0
  generalize hd : decL (b0 :: t) = d
  unfold decL Utf8.decode at hd
  simp only [get_list, size_list, Nat.zero_add, getD0] at hd
  by_cases h1 : b0.toNat < 0x80
  · rw [if_pos h1] at hd
    subst hd
    left
    refine ⟨by unfold okN; omega, ?_, ?_⟩
    · unfold encN
      simp only [if_pos h1, List.cons_append, List.nil_append, List.drop_succ_cons, List.drop_zero, u8_eq rfl]
    · unfold encN
      simp only [if_pos h1, List.length_cons, List.length_nil]
  · rw [if_neg h1] at hd
    by_cases h2 : (b0.toNat / 32 == 6 && (decide (1 < (b0 :: t).length) && ((b0 :: t).getD 1 0).toNat / 64 == 2)) = true
    · rw [if_pos h2] at hd
      simp only [Bool.and_eq_true, decide_eq_true_eq, beq_iff_eq, List.length_cons] at h2
      obtain ⟨b1, t, rfl⟩ : ∃ b1 u, t = b1 :: u := by cases t with | nil => simp at h2 | cons a t => exact ⟨a, t, rfl⟩
      have k1 := u8_lt b1
      simp only [getD1] at hd h2
      replace hd : (if b0.toNat % 32 * 64 + b1.toNat % 64 ≥ 0x80 then (b0.toNat % 32 * 64 + b1.toNat % 64, 2) else (Utf8.runeError, 1)) = d := hd
      by_cases h3 : (b0.toNat % 32) * 64 + b1.toNat % 64 ≥ 0x80
      · rw [if_pos h3] at hd
        subst hd
        left
        generalize hc : (b0.toNat % 32) * 64 + b1.toNat % 64 = c at *
        refine ⟨by unfold okN; omega, ?_, ?_⟩
        · unfold encN
          simp only [if_neg (show ¬ c < 0x80 by omega), if_pos (show c < 0x800 by omega), List.cons_append, List.nil_append, List.drop_succ_cons, List.drop_zero, u8_eq (show 0xC0 + c / 64 = b0.toNat by omega), u8_eq (show 0x80 + c % 64 = b1.toNat by omega)]
        · unfold encN
          simp only [if_neg (show ¬ c < 0x80 by omega), if_pos (show c < 0x800 by omega), List.length_cons, List.length_nil]
      · rw [if_neg h3] at hd
        exact .inr hd.symm
    · rw [if_neg h2] at hd
      clear h2
      by_cases h2 : (b0.toNat / 16 == 14 && (decide (1 < (b0 :: t).length) && ((b0 :: t).getD 1 0).toNat / 64 == 2) && (decide (2 < (b0 :: t).length) && ((b0 :: t).getD 2 0).toNat / 64 == 2)) = true
      · rw [if_pos h2] at hd
        simp only [Bool.and_eq_true, decide_eq_true_eq, beq_iff_eq, List.length_cons] at h2
        obtain ⟨b1, b2, t, rfl⟩ := two_of t (by omega)
        have k1 := u8_lt b1
        have k2 := u8_lt b2
        simp only [getD1, getD2] at hd h2
        replace hd : (if (decide ((b0.toNat % 16) * 4096 + (b1.toNat % 64) * 64 + b2.toNat % 64 ≥ 0x800) && Utf8.valid (((b0.toNat % 16) * 4096 + (b1.toNat % 64) * 64 + b2.toNat % 64 : Nat) : Int)) = true then ((b0.toNat % 16) * 4096 + (b1.toNat % 64) * 64 + b2.toNat % 64, 3) else (Utf8.runeError, 1)) = d := hd
        generalize hc : (b0.toNat % 16) * 4096 + (b1.toNat % 64) * 64 + b2.toNat % 64 = c at *
        by_cases h3 : (decide (c ≥ 0x800) && Utf8.valid (c : Int)) = true
        · rw [if_pos h3] at hd
          subst hd
          simp only [Bool.and_eq_true, decide_eq_true_eq] at h3
          left
          refine ⟨(valid_iff c).1 h3.2, ?_, ?_⟩
          · unfold encN
            simp only [if_neg (show ¬ c < 0x80 by omega), if_neg (show ¬ c < 0x800 by omega), if_pos (show c < 0x10000 by omega), List.cons_append, List.nil_append, List.drop_succ_cons, List.drop_zero, u8_eq (show 0xE0 + c / 4096 = b0.toNat by omega), u8_eq (show 0x80 + c / 64 % 64 = b1.toNat by omega), u8_eq (show 0x80 + c % 64 = b2.toNat by omega)]
          · unfold encN
            simp only [if_neg (show ¬ c < 0x80 by omega), if_neg (show ¬ c < 0x800 by omega), if_pos (show c < 0x10000 by omega), List.length_cons, List.length_nil]
        · rw [if_neg h3] at hd
          exact .inr hd.symm
      · rw [if_neg h2] at hd
        clear h2
        by_cases h2 : (b0.toNat / 8 == 30 && (decide (1 < (b0 :: t).length) && ((b0 :: t).getD 1 0).toNat / 64 == 2) && (decide (2 < (b0 :: t).length) && ((b0 :: t).getD 2 0).toNat / 64 == 2) && (decide (3 < (b0 :: t).length) && ((b0 :: t).getD 3 0).toNat / 64 == 2)) = true
        · rw [if_pos h2] at hd
          simp only [Bool.and_eq_true, decide_eq_true_eq, beq_iff_eq, List.length_cons] at h2
          obtain ⟨b1, b2, b3, t, rfl⟩ := three_of t (by omega)
          have k1 := u8_lt b1
          have k2 := u8_lt b2
          have k3 := u8_lt b3
          simp only [getD1, getD2, getD3] at hd h2
          replace hd : (if (decide ((b0.toNat % 8) * 262144 + (b1.toNat % 64) * 4096 + (b2.toNat % 64) * 64 + b3.toNat % 64 ≥ 0x10000) && Utf8.valid (((b0.toNat % 8) * 262144 + (b1.toNat % 64) * 4096 + (b2.toNat % 64) * 64 + b3.toNat % 64 : Nat) : Int)) = true then ((b0.toNat % 8) * 262144 + (b1.toNat % 64) * 4096 + (b2.toNat % 64) * 64 + b3.toNat % 64, 4) else (Utf8.runeError, 1)) = d := hd
          generalize hc : (b0.toNat % 8) * 262144 + (b1.toNat % 64) * 4096 + (b2.toNat % 64) * 64 + b3.toNat % 64 = c at *
          by_cases h3 : (decide (c ≥ 0x10000) && Utf8.valid (c : Int)) = true
          · rw [if_pos h3] at hd
            subst hd
            simp only [Bool.and_eq_true, decide_eq_true_eq] at h3
            have hk := (valid_iff c).1 h3.2
            left
            refine ⟨hk, ?_, ?_⟩
            · unfold okN at hk
              unfold encN
              simp only [if_neg (show ¬ c < 0x80 by omega), if_neg (show ¬ c < 0x800 by omega), if_neg (show ¬ c < 0x10000 by omega), List.cons_append, List.nil_append, List.drop_succ_cons, List.drop_zero, u8_eq (show 0xF0 + c / 262144 = b0.toNat by omega), u8_eq (show 0x80 + c / 4096 % 64 = b1.toNat by omega), u8_eq (show 0x80 + c / 64 % 64 = b2.toNat by omega), u8_eq (show 0x80 + c % 64 = b3.toNat by omega)]
            · unfold encN
              simp only [if_neg (show ¬ c < 0x80 by omega), if_neg (show ¬ c < 0x800 by omega), if_neg (show ¬ c < 0x10000 by omega), List.length_cons, List.length_nil]
          · rw [if_neg h3] at hd
            exact .inr hd.symm
        · rw [if_neg h2] at hd
          exact .inr hd.symm
theorem encN_len (c : Nat) : 1 ≤ (encN c).length ∧ (encN c).length ≤ 4 := by
  unfold encN
  repeat' split
  all_goals simp
/-- What is read at the head of a list that is not empty: one to four bytes of it, a number up to 10FFFF. -/
theorem decL_size (l : List UInt8) (hl : l ≠ []) : 1 ≤ (decL l).2 ∧ (decL l).2 ≤ 4 ∧ (decL l).2 ≤ l.length ∧ okN (decL l).1 := by
  rcases decL_split l hl with ⟨h1, h2, h3⟩ | h
  · have := encN_len (decL l).1
    have h4 := congrArg List.length h2
    rw [List.length_append] at h4
    exact ⟨by omega, by omega, by omega, h1⟩
  · rw [h]
    have : 0 < l.length := List.length_pos_iff.2 hl
    exact ⟨Nat.le_refl _, by decide, by omega, by decide⟩
/-- Where a code point's bytes stand ahead it is read. -/
theorem decL_of_prefix (l : List UInt8) (c : Nat) (h : okN c) (r : List UInt8) (e : l = encN c ++ r) : decL l = (c, (encN c).length) := by
  rw [e]
  exact decL_enc c h r
end Go.Proofs.YtgbkfjdkejjmpaaU
