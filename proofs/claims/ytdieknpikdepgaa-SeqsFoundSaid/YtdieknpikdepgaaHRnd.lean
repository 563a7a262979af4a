/- Numbers that are told of by rows of rising ends: what they tell of a number they tell of the last end ahead of it. Conditions: none. -/
import Derived.Test.YtdieknpikdepgaaHEv
namespace Go.Proofs.YtdieknpikdepgaaH
open Go.RowKit Go.Proofs.YtdieknpikdepgaaW.PrintWords Go.Proofs.YtdieknpikdepgaaW.PrintLast Go.Proofs.YtdieknpikdepgaaW.PrintMore
set_option linter.unusedVariables false
set_option linter.unusedSimpArgs false

theorem band (n m : Int) (k : Nat) (hk : k ≤ 62) (h : (BitVec.ofInt 64 m).toNat = 2 ^ k - 1) : bits .and .i64 n m = n % ((2 ^ k : Nat) : Int) := by
  have key : (BitVec.ofInt 64 n &&& BitVec.ofInt 64 m).toNat = (n % ((2 ^ 64 : Nat) : Int)).toNat % 2 ^ k := by
    rw [BitVec.toNat_and, BitVec.toNat_ofInt, h, Nat.and_two_pow_sub_one_eq_mod]
  show IntKind.i64.wrap ((BitVec.ofInt 64 n &&& BitVec.ofInt 64 m).toNat : Nat) = n % ((2 ^ k : Nat) : Int)
  rw [key, IntKind.wrap_i64]
  have hd : ((2 ^ k : Nat) : Int) ∣ ((2 ^ 64 : Nat) : Int) := Int.ofNat_dvd.2 (Nat.pow_dvd_pow 2 (by omega))
  have h0 : 0 ≤ n % ((2 ^ 64 : Nat) : Int) := Int.emod_nonneg _ (by decide)
  obtain ⟨q, hq⟩ := Int.eq_ofNat_of_zero_le h0
  have e1 : n % ((2 ^ 64 : Nat) : Int) % ((2 ^ k : Nat) : Int) = n % ((2 ^ k : Nat) : Int) := Int.emod_emod_of_dvd n hd
  rw [hq] at e1 ⊢
  rw [← e1]
  have hp : 2 ^ k ≤ 2 ^ 62 := Nat.pow_le_pow_right (by decide) hk
  have hpos : 0 < 2 ^ k := Nat.two_pow_pos k
  have hm : q % 2 ^ k < 2 ^ k := Nat.mod_lt _ hpos
  rw [Int.toNat_natCast]
  rw [show (((q % 2 ^ k : Nat)) : Int) = (q : Int) % ((2 ^ k : Nat) : Int) from by rw [Int.natCast_emod]] at *
  have e2 : ((q % 2 ^ k : Nat) : Int) = (q : Int) % ((2 ^ k : Nat) : Int) := Int.natCast_emod _ _
  have h2 : (2 : Nat) ^ 62 = 4611686018427387904 := by decide
  generalize (q : Int) % ((2 ^ k : Nat) : Int) = z at *
  omega
theorem rd_mid (pre : List Int) (x : Int) (r : List Int) : rd (pre ++ x :: r) (pre.length : Int) = x := by
  unfold rd
  rw [Int.toNat_natCast, List.getD_eq_getElem?_getD, List.getElem?_append_right (Nat.le_refl _), Nat.sub_self]
  rfl
end Go.Proofs.YtdieknpikdepgaaH
