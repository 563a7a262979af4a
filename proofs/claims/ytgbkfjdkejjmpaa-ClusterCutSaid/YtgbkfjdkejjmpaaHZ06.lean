/- Chapter 6: small laws on clusters: one of a row, the greater of two numbers, whether a byte is in one; the chapter's examples. Conditions: none of their own. -/
import Derived.Test.YtgbkfjdkejjmpaaHC06
import Derived.Test.YtgbkfjdkejjmpaaPC06x6
import Derived.Test.YtgbkfjdkejjmpaaPC06x16
namespace Go.Proofs.Ytgbkfjdkejjmpaa.PC06
open Go.RowKit Go.Proofs.YtgbkfjdkejjmpaaW.PrintWords Go.Proofs.YtgbkfjdkejjmpaaW.PrintLast Go.Proofs.YtgbkfjdkejjmpaaW.PrintMore Go.Proofs.YtgbkfjdkejjmpaaH
set_option linter.unusedVariables false
open Q05 (rng)
abbrev Rn := S37
abbrev Cl := S39
theorem mx_max (a b : Int) : mx a b = max a b := by unfold mx; split <;> omega
theorem rd_at39 (pre : List Cl) (x : Cl) (r : List Cl) : rd_T39 (pre ++ x :: r) (pre.length : Int) = x := by
  unfold rd_T39
  rw [Int.toNat_natCast, List.getD_eq_getElem?_getD, List.getElem?_append_right (Nat.le_refl _), Nat.sub_self]
  rfl
theorem u64w (x : Int) : IntKind.u64.wrap x = x % 18446744073709551616 := rfl
theorem mod_sub (p a d : Int) (hp : -9223372036854775808 ≤ p ∧ p ≤ 9223372036854775807) (ha : -9223372036854775808 ≤ a ∧ a ≤ 9223372036854775807) (hd : 1 ≤ d ∧ d ≤ 9223372036854775807) (h : a ≤ p) : (p % 18446744073709551616 - a % 18446744073709551616) % 18446744073709551616 < d % 18446744073709551616 ↔ p - a < d := by
  rw [← Int.sub_emod, Int.emod_eq_of_lt (by omega) (by omega), Int.emod_eq_of_lt (by omega) (by omega)]
theorem hit_iff (p : Int) (c : Cl) (hp : rng p) (h0 : rng c.f0) (h1 : rng c.f1) : cluster_Find.hit p c = true ↔ 1 ≤ c.f1 ∧ c.f0 ≤ p ∧ p - c.f0 < c.f1 := by
  obtain ⟨p0, p1⟩ := hp
  obtain ⟨a0, a1⟩ := h0
  obtain ⟨b0, b1⟩ := h1
  unfold cluster_Find.hit
  simp only [Bool.and_eq_true, decide_eq_true_eq, u64w]
  constructor
  · rintro ⟨h1, h2, h3⟩
    exact ⟨by omega, h2, (mod_sub p c.f0 c.f1 ⟨p0, p1⟩ ⟨a0, a1⟩ ⟨by omega, b1⟩ h2).1 (of_decide_eq_true h3)⟩
  · rintro ⟨h1, h2, h3⟩
    exact ⟨by omega, h2, decide_eq_true ((mod_sub p c.f0 c.f1 ⟨p0, p1⟩ ⟨a0, a1⟩ ⟨by omega, b1⟩ h2).2 h3)⟩
set_option maxRecDepth 100000 in
theorem awake_ev : Ev (fun k => parquetrylaw06_awake.f k) true := Ev.of (fun k => parquetrylaw06_awake.mono k) (k := 40) (by decide +kernel)
end Go.Proofs.Ytgbkfjdkejjmpaa.PC06
