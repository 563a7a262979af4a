/- ColsSums: no number takes less than none or more than two slots, and a text cut in two takes as many as its halves (the pure statement over the printed Lean functions). Conditions: those of the statement. -/
import Derived.Test.YtgbkfjdkejjmpaaPC04x4
import Derived.Test.YtgbkfjdkejjmpaaHP04
namespace Go.Proofs.Ytgbkfjdkejjmpaa.Pure
open Go.RowKit Go.Proofs.Ytgbkfjdkejjmpaa.PC04 Go.Proofs.YtgbkfjdkejjmpaaW.PrintWords Go.Proofs.YtgbkfjdkejjmpaaW.PrintLast Go.Proofs.YtgbkfjdkejjmpaaH
set_option linter.unusedVariables false

theorem and65535 (n : Int) : bits .and .i64 n 65535 = n % 65536 := by
  have h127 : (BitVec.ofInt 64 65535).toNat = 2 ^ 16 - 1 := by decide
  have key : (BitVec.ofInt 64 n &&& BitVec.ofInt 64 65535).toNat = (n % ((2 ^ 64 : Nat) : Int)).toNat % 2 ^ 16 := by
    rw [BitVec.toNat_and, BitVec.toNat_ofInt, h127, Nat.and_two_pow_sub_one_eq_mod]
  show IntKind.i64.wrap ((BitVec.ofInt 64 n &&& BitVec.ofInt 64 65535).toNat : Nat) = n % 65536
  rw [key, IntKind.wrap_i64]
  omega
theorem sums_l0 (l : List Int) (q : Nat) (hq : q ≤ l.length) (hl : l.length ≤ 200) : ∀ (r pre : List Int), l = pre ++ r → Ev (fun k => parquetrylaw04_ColsSums.l0 k l (q : Int) (sumV pre) (pre.length : Int)) true
  | [], pre, h => by
    have hs := sumV_append (l.take q) (l.drop q)
    rw [List.take_append_drop] at hs
    have s1 := sumV_range (l.take q)
    have s2 := sumV_range (l.drop q)
    rw [List.length_take] at s1
    rw [List.length_drop] at s2
    have hp : sumV pre = sumV l := by rw [h]; simp
    refine Ev.succ ?_
    simp only [parquetrylaw04_ColsSums.l0]
    rw [hp]
    refine Ev.ifn (by rw [h]; simp) (Ev.bind (sum_ev l (by omega)) (Ev.ifp (by simp) (Ev.ifp (by omega) (Ev.ifp (by omega) ?_))))
    rw [Int.toNat_natCast]
    refine Ev.bind (sum_ev _ (by rw [List.length_take]; omega)) (Ev.bind (sum_ev _ (by rw [List.length_drop]; omega)) ?_)
    rw [w64 (by omega) (by omega)]
    exact Ev.ifp hs.symm (Ev.bind awake_ev (Ev.now _))
  | x :: r, pre, h => by
    have hlen : l.length = pre.length + (r.length + 1) := by rw [h]; simp
    have hrd : rd l (pre.length : Int) = x := by rw [h]; exact rd_mid pre x r
    have e : wrap64 ((pre.length : Int) + 1) = ((pre ++ [x]).length : Int) := by rw [w64 (by omega) (by omega)]; simp
    have ih := sums_l0 l q hq hl r (pre ++ [x]) (by rw [h]; simp)
    have e2 : sumV (pre ++ [x]) = sumV pre + colsV x := by rw [sumV_append]; simp [sumV]
    have s1 := sumV_range pre
    have s2 := colsV_range x
    rw [e2] at ih
    refine Ev.succ ?_
    simp only [parquetrylaw04_ColsSums.l0]
    rw [hrd, e]
    refine Ev.ifp (by omega) (Ev.ifp (by omega) (Ev.bindc (of_eq x) (Ev.ifn (by omega) (Ev.ifn (by omega) ?_))))
    rw [w64 (x := sumV pre + colsV x) (by omega) (by omega)]
    exact ih
theorem ColsSums : parquetrylaw04_ColsSums.Pure := by
  intro l a1 h1 h2 h3 w1
  refine Ev.ex ?_
  unfold parquetrylaw04_ColsSums.f
  by_cases hl : (l.length : Int) > 200
  · exact Ev.ifp hl (Ev.bind awake_ev (Ev.now _))
  · rw [w64 (x := (l.length : Int) + 1) (by omega) (by omega), and65535]
    have h0 : 0 ≤ a1 % 65536 := Int.emod_nonneg _ (by decide)
    have e : Int.tmod (a1 % 65536) ((l.length : Int) + 1) = (((a1 % 65536).toNat % (l.length + 1) : Nat) : Int) := by
      rw [Int.tmod_eq_emod_of_nonneg h0]
      obtain ⟨m, hm⟩ := Int.eq_ofNat_of_zero_le h0
      rw [hm, Int.toNat_natCast]
      simp
    rw [e]
    have hm : (a1 % 65536).toNat % (l.length + 1) < l.length + 1 := Nat.mod_lt _ (by omega)
    refine Ev.ifn hl (Ev.ifn (by omega) ?_)
    exact sums_l0 l _ (by omega) (by omega) l [] rfl
end Go.Proofs.Ytgbkfjdkejjmpaa.Pure
