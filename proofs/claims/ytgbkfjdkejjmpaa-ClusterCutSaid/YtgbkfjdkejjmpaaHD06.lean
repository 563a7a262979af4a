/- Chapter 6: which rune joins which, told of the code points ahead; what the document's Joins and Wide tell. Conditions: whole numbers of 64 bits; at most 100000 of them in a row. -/
import Derived.Test.YtgbkfjdkejjmpaaHA06
import Derived.Test.YtgbkfjdkejjmpaaHB06
import Derived.Test.YtgbkfjdkejjmpaaHC06
import Derived.Test.YtgbkfjdkejjmpaaPC06x5
import Derived.Test.YtgbkfjdkejjmpaaPC06x8
namespace Go.Proofs.Ytgbkfjdkejjmpaa.PC06
open Go.RowKit Go.Proofs.YtgbkfjdkejjmpaaW.PrintWords Go.Proofs.YtgbkfjdkejjmpaaW.PrintLast Go.Proofs.YtgbkfjdkejjmpaaW.PrintMore Go.Proofs.YtgbkfjdkejjmpaaH
set_option linter.unusedVariables false
set_option linter.unusedSimpArgs false
open Q05 (gk pk rng)
open Q04 (colsV)

/-! ### kinds and pictographs -/
def mrg : List Int → List Int → Nat → List Int
  | _, _, 0 => []
  | [], b, _ => b
  | a, [], _ => a
  | x :: a, y :: b, n + 1 => if x < y then x :: mrg a (y :: b) n else if y < x then y :: mrg (x :: a) b n else x :: mrg a b n
def bothL : List Int := mrg Q05.ends gcb_Pict.L 2000
set_option maxRecDepth 100000 in
theorem both_up : rup bothL (-1) = true := by decide +kernel
set_option maxRecDepth 100000 in
theorem both_k : (gcb_Of.rowsL.all fun r => bothL.contains r.f) = true := by decide +kernel
set_option maxRecDepth 100000 in
theorem both_p : (gcb_Pict.L.all fun x => bothL.contains x) = true := by decide +kernel
set_option maxRecDepth 100000 in
theorem both_at : ∀ x ∈ (-1) :: bothL, gcb_Pict.oddIn gcb_Pict.L x = true → (gcb_Of.kd gcb_Of.rowsL 0 x = 0 ∨ 6 ≤ gcb_Of.kd gcb_Of.rowsL 0 x) := by decide +kernel
set_option maxRecDepth 100000 in
theorem kd_at : ∀ x ∈ (-1) :: bothL, 0 ≤ gcb_Of.kd gcb_Of.rowsL 0 x ∧ gcb_Of.kd gcb_Of.rowsL 0 x ≤ 13 := by decide +kernel
theorem kd_range (c : Int) : 0 ≤ gcb_Of.kd gcb_Of.rowsL 0 c ∧ gcb_Of.kd gcb_Of.rowsL 0 c ≤ 13 := by
  rw [Q05.kd_rnd bothL (-1) c both_up _ _ both_k]
  exact kd_at _ (rnd_mem _ _ _)
theorem gk_cases (c : Int) : gk c = 0 ∨ gk c = gcb_Of.kd gcb_Of.rowsL 0 c ∨ gk c = 12 ∨ gk c = 13 := by
  unfold Q05.gk gcb_Of.val gcb_Of.kindV
  split
  · exact .inl rfl
  split
  · exact .inr (.inl rfl)
  split
  · exact .inr (.inr (.inl rfl))
  · exact .inr (.inr (.inr rfl))
theorem gk_range (c : Int) : 0 ≤ gk c ∧ gk c ≤ 13 := by
  have h := kd_range c
  rcases gk_cases c with e | e | e | e <;> omega
/-- A pictograph is no control, extends nothing, and is no joiner. -/
theorem pk_gk (c : Int) (h : pk c = true) : gk c = 0 ∨ 6 ≤ gk c := by
  have h1 : gcb_Pict.oddIn gcb_Pict.L (rnd bothL (-1) c) = true := by
    rw [← Q05.oddIn_rnd bothL (-1) c both_up _ both_p]
    exact h
  have h2 := both_at _ (rnd_mem bothL (-1) c) h1
  rw [← Q05.kd_rnd bothL (-1) c both_up _ _ both_k] at h2
  rcases gk_cases c with e | e | e | e <;> omega
theorem kinds14 (P : Int → Prop) (h : ∀ n : Nat, n < 14 → P (n : Int)) (c : Int) : P (gk c) := by
  obtain ⟨h0, h1⟩ := gk_range c
  obtain ⟨n, hn⟩ := Int.eq_ofNat_of_zero_le h0
  rw [hn]
  exact h n (by omega)

/-! ### which rune joins -/
/-- How many flags stand at the end (told from the last code point on). -/
def fl : List Int → Nat
  | [] => 0
  | c :: r => if gk c = 6 then fl r + 1 else 0
/-- What stands behind a pictograph. -/
def tie : List Int → Int
  | [] => 0
  | c :: r => cluster_seen_then.tie (gk c) (pk c) (tie r)
/-- Does a code point join those ahead of it? -/
def Jb (pre : List Int) (b : Int) : Bool := match pre with
  | [] => false
  | a :: _ => cluster_seen_joins.jn (gk a) (gk b) || (pk b && tie pre == 2) || (gk b == 6 && fl pre % 2 == 1)
theorem fl_cons (c : Int) (r : List Int) : fl (c :: r) = if gk c = 6 then fl r + 1 else 0 := rfl
theorem fl_len : ∀ pre, fl pre ≤ pre.length
  | [] => Nat.le_refl _
  | c :: r => by
    have := fl_len r
    unfold fl
    split
    · simp only [List.length_cons]; omega
    · omega
theorem joins_eq (a : Int) (pre : List Int) (z0 z1 z2 z4 y0 y1 y2 y4 : Int) (b : Int) : cluster_seen_joins.f z0 z1 z2 (gk a) z4 (pk a) (tie (a :: pre)) (fl (a :: pre) : Int) y0 y1 y2 (gk b) y4 (pk b) = some (Jb (a :: pre) b) := by
  have h1 := gk_range a
  have h2 := gk_range b
  unfold cluster_seen_joins.f
  rw [if_pos h1.1, if_pos (by omega), if_pos h2.1, if_pos (by omega)]
  unfold Jb
  congr 1
  have hm : (Int.tmod ((fl (a :: pre) : Nat) : Int) 2 == 1) = (fl (a :: pre) % 2 == 1) := by
    rw [Int.tmod_eq_emod_of_nonneg (by omega), Bool.eq_iff_iff, beq_iff_eq, beq_iff_eq]
    omega
  rw [hm]
  cases hj : cluster_seen_joins.jn (gk a) (gk b) <;> cases hb : pk b <;> cases ht : (tie (a :: pre) == 2) <;> cases h6 : (gk b == 6) <;> simp [hj]
theorem then_eq (z0 z1 z2 z4 y0 y1 y2 y4 : Int) (a : Int) (b : Int) (pre : List Int) (hl : pre.length < 1000000) (w : Int) : cluster_seen_then.f z0 z1 z2 (gk a) z4 (pk a) (tie pre) (fl pre : Int) y0 y1 y2 (gk b) y4 (pk b) = some (y0, y1, y2, gk b, y4, pk b, tie (b :: pre), (fl (b :: pre) : Int)) := by
  unfold cluster_seen_then.f cluster_seen_then.flag
  have h := fl_len pre
  congr 1
  simp only [Prod.mk.injEq, true_and]
  refine ⟨rfl, ?_⟩
  rw [fl_cons]
  by_cases h6 : gk b = 6
  · rw [if_pos h6, if_pos (beq_iff_eq.2 h6), w64 (by omega) (by omega)]
    rfl
  · rw [if_neg h6, if_neg (fun e => h6 (beq_iff_eq.1 e))]
    rfl

/-! ### the document's Joins -/
def aln (k : Int) : Bool := k == 1 || (k == 2 || k == 3)
theorem alone_eq (k : Int) : parquetryref06_alone.f k = some (aln k) := by
  unfold parquetryref06_alone.f aln
  by_cases h1 : k = 1
  · simp [h1]
  · by_cases h2 : k = 2
    · simp [h2]
    · rw [if_neg h1, if_neg h2, beq_eq_false_iff_ne.2 h1, beq_eq_false_iff_ne.2 h2]
      rfl
def sylV (a b : Int) : Bool := (parquetryref06_syllable.f a b).getD false
theorem syl_eq (a b : Int) : parquetryref06_syllable.f a b = some (sylV a b) := by
  unfold sylV
  unfold parquetryref06_syllable.f
  repeat (first | rfl | split)
/-- The rules that look at two kinds alone. -/
def twoV (a b : Int) : Bool := (a == 1 && b == 2) || (!aln a && !aln b && (b == 4 || b == 5 || b == 8 || a == 7)) || sylV a b
set_option maxRecDepth 100000 in
theorem two_all : ∀ n : Nat, n < 14 → ∀ m : Nat, m < 14 → cluster_seen_joins.jn (n : Int) (m : Int) = twoV (n : Int) (m : Int) := by decide +kernel
theorem two_eq (a b : Int) : cluster_seen_joins.jn (gk a) (gk b) = twoV (gk a) (gk b) :=
  kinds14 (fun x => cluster_seen_joins.jn x (gk b) = twoV x (gk b)) (fun n hn => kinds14 (fun y => cluster_seen_joins.jn (n : Int) y = twoV (n : Int) y) (fun m hm => two_all n hn m hm) b) a
/-- Does a pictograph stand behind nothing but what extends it? -/
def near : List Int → Bool
  | [] => false
  | c :: r => if gk c = 4 then near r else pk c
theorem tie_near : ∀ pre, (tie pre == 1) = near pre
  | [] => rfl
  | c :: r => by
    have ih := tie_near r
    unfold tie near cluster_seen_then.tie
    by_cases hp : pk c = true
    · have := pk_gk c hp
      rw [if_pos hp, if_neg (by omega), hp]
      rfl
    · rw [if_neg hp]
      by_cases h4 : gk c = 4
      · rw [if_pos (beq_iff_eq.2 h4), if_pos h4, ← ih]
        cases (tie r == 1) <;> rfl
      · rw [if_neg (fun e => h4 (beq_iff_eq.1 e)), if_neg h4]
        have hpf : pk c = false := by simpa using hp
        rw [hpf]
        by_cases h5 : gk c = 5
        · rw [if_pos (beq_iff_eq.2 h5)]
          cases (tie r == 1) <;> rfl
        · rw [if_neg (fun e => h5 (beq_iff_eq.1 e))]
          rfl
theorem tie_two (c : Int) (r : List Int) : (tie (c :: r) == 2) = (gk c == 5 && near r) := by
  have ih := tie_near r
  unfold tie cluster_seen_then.tie
  by_cases hp : pk c = true
  · have := pk_gk c hp
    rw [if_pos hp, beq_eq_false_iff_ne.2 (show gk c ≠ 5 by omega)]
    rfl
  · rw [if_neg hp]
    by_cases h4 : gk c = 4
    · rw [if_pos (beq_iff_eq.2 h4), h4]
      cases (tie r == 1) <;> rfl
    · rw [if_neg (fun e => h4 (beq_iff_eq.1 e))]
      by_cases h5 : gk c = 5
      · rw [if_pos (beq_iff_eq.2 h5), beq_iff_eq.2 h5, ← ih]
        cases (tie r == 1) <;> rfl
      · rw [if_neg (fun e => h5 (beq_iff_eq.1 e)), beq_eq_false_iff_ne.2 h5]
        rfl
theorem rd_rev (r pre : List Int) (c : Int) (t : List Int) : rd ((c :: r).reverse ++ t) (r.length : Int) = c := by
  rw [List.reverse_cons, List.append_assoc]
  have := rd_mid r.reverse c t
  rw [List.length_reverse] at this
  exact this
section
variable (codes : List Int) (hl : codes.length < 1000000)
include hl
theorem j4_ev (i a b : Int) (pre t : List Int) (hc : codes = (a :: pre).reverse ++ b :: t) (hi : i = (pre.length : Int) + 1) : Ev (fun k => parquetryref06_Joins.j4 k codes i (gk a) (gk b)) (gk b == 6 && fl (a :: pre) % 2 == 1) := by
  have hlen : codes.length = pre.length + 1 + (t.length + 1) := by rw [hc]; simp; try omega
  have l1 : ∀ (q p : List Int) (n : Nat), p = q → n + q.length = pre.length → ∀ u, codes = q.reverse ++ u → Ev (fun k => parquetryref06_Joins.l1 k codes (n : Int) ((q.length : Int) - 1)) ((n + fl q) % 2 == 0) := by
    intro q
    induction q with
    | nil =>
      intro p n _ hn u hu
      refine Ev.succ ?_
      simp only [parquetryref06_Joins.l1]
      refine Ev.ifn (by simp) (Ev.val (Ev.now _) ?_)
      rw [Int.tmod_eq_emod_of_nonneg (by omega), Bool.eq_iff_iff, beq_iff_eq, beq_iff_eq]
      unfold fl
      omega
    | cons c r ih =>
      intro p n hp hn u hu
      simp only [List.length_cons] at hn
      refine Ev.succ ?_
      simp only [parquetryref06_Joins.l1]
      have e1 : ((c :: r).length : Int) - 1 = (r.length : Int) := by simp
      rw [e1]
      have hr : rd codes (r.length : Int) = c := by rw [hu]; exact rd_rev r pre c u
      rw [hr]
      refine Ev.ifp (by omega) (Ev.ifp (by omega) (Ev.ifp (by omega) (Ev.bind (Q05.refOf_ev c) ?_)))
      unfold fl
      by_cases h6 : gk c = 6
      · rw [if_pos h6]
        refine Ev.ifp h6 ?_
        have := ih r (n + 1) rfl (by omega) ([c] ++ u) (by rw [hu]; simp)
        rw [w64 (by omega) (by omega), w64 (by omega) (by omega), show (n : Int) + 1 = ((n + 1 : Nat) : Int) by omega, show n + (fl r + 1) = n + 1 + fl r by omega]
        exact this
      · rw [if_neg h6]
        refine Ev.ifn h6 (Ev.val (Ev.now _) ?_)
        rw [Int.tmod_eq_emod_of_nonneg (by omega), Bool.eq_iff_iff, beq_iff_eq, beq_iff_eq]
        omega
  refine Ev.succ ?_
  simp only [parquetryref06_Joins.j4]
  by_cases ha : gk a = 6
  · refine Ev.ifp ha (Ev.succ ?_)
    simp only [parquetryref06_Joins.j5]
    by_cases hb : gk b = 6
    · refine Ev.ifp (beq_iff_eq.2 hb) ?_
      have := l1 pre pre 0 rfl (by omega) (a :: b :: t) (by rw [hc]; simp)
      rw [w64 (by omega) (by omega), hi, show (pre.length : Int) + 1 - 2 = (pre.length : Int) - 1 by omega]
      refine Ev.val this ?_
      rw [fl_cons, if_pos ha, beq_iff_eq.2 hb, Bool.eq_iff_iff]
      simp only [Bool.true_and, beq_iff_eq]
      omega
    · refine Ev.ifn (fun e => hb (beq_iff_eq.1 e)) (Ev.val (Ev.now _) ?_)
      rw [beq_eq_false_iff_ne.2 hb]
      rfl
  · refine Ev.ifn ha (Ev.succ ?_)
    simp only [parquetryref06_Joins.j5]
    refine Ev.ifn (by decide) (Ev.val (Ev.now _) ?_)
    rw [fl_cons, if_neg ha]
    cases (gk b == 6) <;> rfl
theorem jl0_ev (i a b : Int) (pre t : List Int) (hc : codes = (a :: pre).reverse ++ b :: t) (hi : i = (pre.length : Int) + 1) : ∀ (q u : List Int), codes = q.reverse ++ u → Ev (fun k => parquetryref06_Joins.l0 k codes i (gk a) (gk b) ((q.length : Int) - 1)) (near q || (gk b == 6 && fl (a :: pre) % 2 == 1)) := by
  intro q
  induction q with
  | nil =>
    intro u hu
    refine Ev.succ ?_
    simp only [parquetryref06_Joins.l0]
    exact Ev.ifn (by simp) (j4_ev codes hl i a b pre t hc hi)
  | cons c r ih =>
    intro u hu
    have hlen : codes.length = r.length + 1 + u.length := by rw [hu]; simp; try omega
    refine Ev.succ ?_
    simp only [parquetryref06_Joins.l0]
    have e1 : ((c :: r).length : Int) - 1 = (r.length : Int) := by simp
    rw [e1]
    have hr : rd codes (r.length : Int) = c := by rw [hu]; exact rd_rev r pre c u
    rw [hr]
    refine Ev.ifp (by omega) (Ev.ifp (by omega) (Ev.ifp (by omega) (Ev.bind (Q05.refOf_ev c) ?_)))
    unfold near
    by_cases h4 : gk c = 4
    · rw [if_pos h4]
      refine Ev.ifp h4 ?_
      rw [w64 (by omega) (by omega)]
      exact ih ([c] ++ u) (by rw [hu]; simp)
    · rw [if_neg h4]
      refine Ev.ifn h4 (Ev.bind (Q05.refPict_ev c) ?_)
      cases hp : pk c with
      | true => exact Ev.ifp rfl (Ev.now _)
      | false => exact Ev.ifn (by decide) (Ev.val (j4_ev codes hl i a b pre t hc hi) rfl)
theorem joins_ev (a b : Int) (pre t : List Int) (hc : codes = (a :: pre).reverse ++ b :: t) : Ev (fun k => parquetryref06_Joins.f k codes ((pre.length : Int) + 1)) (Jb (a :: pre) b) := by
  have hlen : codes.length = pre.length + 1 + (t.length + 1) := by rw [hc]; simp; try omega
  have hra : rd codes (pre.length : Int) = a := by rw [hc]; exact rd_rev pre pre a _
  have hrb : rd codes ((pre.length : Int) + 1) = b := by
    rw [hc]
    have := rd_mid (a :: pre).reverse b t
    rw [List.length_reverse, List.length_cons] at this
    exact this
  have h4 := j4_ev codes hl ((pre.length : Int) + 1) a b pre t hc rfl
  have hl0 := jl0_ev codes hl ((pre.length : Int) + 1) a b pre t hc rfl pre (a :: b :: t) (by rw [hc]; simp)
  have e2 : wrap64 ((pre.length : Int) + 1 - 2) = (pre.length : Int) - 1 := by rw [w64 (by omega) (by omega)]; omega
  unfold parquetryref06_Joins.f
  rw [w64 (by omega) (by omega), show (pre.length : Int) + 1 - 1 = (pre.length : Int) by omega, hra, hrb]
  refine Ev.ifp (by omega) (Ev.ifp (by omega) (Ev.bind (Q05.refOf_ev a) (Ev.ifp (by omega) (Ev.ifp (by omega) (Ev.bind (Q05.refOf_ev b) ?_)))))
  -- behind the rules on two kinds
  have last : Ev (fun k => parquetryref06_Joins.j1 k codes ((pre.length : Int) + 1) (gk a) (gk b) false) (sylV (gk a) (gk b) || (pk b && (gk a == 5 && near pre)) || (gk b == 6 && fl (a :: pre) % 2 == 1)) := by
    refine Ev.succ ?_
    simp only [parquetryref06_Joins.j1]
    refine Ev.ifn (by decide) (Ev.bindc (syl_eq _ _) ?_)
    cases hs : sylV (gk a) (gk b) with
    | true => exact Ev.ifp rfl (Ev.now _)
    | false =>
      refine Ev.ifn (by decide) ?_
      by_cases h5 : gk a = 5
      · rw [beq_iff_eq.2 h5]
        refine Ev.ifp h5 (Ev.ifp (by omega) (Ev.ifp (by omega) ?_))
        rw [hrb]
        refine Ev.bind (Q05.refPict_ev b) (Ev.succ ?_)
        simp only [parquetryref06_Joins.j2]
        cases hp : pk b with
        | true =>
          refine Ev.ifp rfl ?_
          rw [e2]
          exact Ev.val hl0 (by simp)
        | false => exact Ev.ifn (by decide) (Ev.val h4 (by simp))
      · rw [beq_eq_false_iff_ne.2 h5]
        refine Ev.ifn h5 (Ev.succ ?_)
        simp only [parquetryref06_Joins.j2]
        exact Ev.ifn (by decide) (Ev.val h4 (by simp))
  have lastT : Ev (fun k => parquetryref06_Joins.j1 k codes ((pre.length : Int) + 1) (gk a) (gk b) true) true := by
    refine Ev.succ ?_
    simp only [parquetryref06_Joins.j1]
    exact Ev.ifp trivial (Ev.now _)
  have hJ : Jb (a :: pre) b = (twoV (gk a) (gk b) || (pk b && (gk a == 5 && near pre)) || (gk b == 6 && fl (a :: pre) % 2 == 1)) := by
    unfold Jb
    simp only
    rw [two_eq, tie_two]
  have j0F : (gk a == 1 && gk b == 2) = false → Ev (fun k => parquetryref06_Joins.j0 k codes ((pre.length : Int) + 1) (gk a) (gk b) false) (Jb (a :: pre) b) := fun h12 => by
    refine Ev.succ ?_
    simp only [parquetryref06_Joins.j0]
    refine Ev.ifn (by decide) (Ev.bindc (alone_eq _) ?_)
    rw [hJ]
    unfold twoV
    rw [h12]
    cases h1 : aln (gk a) with
    | true => exact Ev.ifp rfl (Ev.val last (by simp))
    | false =>
      refine Ev.ifn (by decide) (Ev.bindc (alone_eq _) ?_)
      cases h2 : aln (gk b) with
      | true => exact Ev.ifp rfl (Ev.val last (by simp))
      | false =>
        refine Ev.ifn (by decide) ?_
        by_cases c4 : gk b = 4
        · exact Ev.ifp c4 (Ev.val lastT (by rw [c4]; simp))
        refine Ev.ifn c4 ?_
        by_cases c5 : gk b = 5
        · exact Ev.ifp c5 (Ev.val lastT (by rw [c5]; simp))
        refine Ev.ifn c5 ?_
        by_cases c8 : gk b = 8
        · exact Ev.ifp c8 (Ev.val lastT (by rw [c8]; simp))
        refine Ev.ifn c8 ?_
        rw [beq_eq_false_iff_ne.2 c4, beq_eq_false_iff_ne.2 c5, beq_eq_false_iff_ne.2 c8]
        cases h7 : (gk a == 7) with
        | true => exact Ev.val lastT (by simp)
        | false => exact Ev.val last (by simp)
  by_cases h1 : gk a = 1
  · refine Ev.ifp h1 ?_
    cases h2 : (gk b == 2) with
    | true =>
      refine Ev.succ ?_
      simp only [parquetryref06_Joins.j0]
      refine Ev.ifp trivial (Ev.val (Ev.now _) ?_)
      rw [hJ]
      unfold twoV
      rw [beq_iff_eq.2 h1, h2]
      rfl
    | false => exact j0F (by rw [h2]; simp)
  · refine Ev.ifn h1 (j0F (by rw [beq_eq_false_iff_ne.2 h1]; rfl))
end
end Go.Proofs.Ytgbkfjdkejjmpaa.PC06
