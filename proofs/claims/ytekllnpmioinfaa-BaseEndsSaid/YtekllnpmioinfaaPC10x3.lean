/- For the laws of the group C10: the Lean functions that the Go functions compute, and proofs that they do. Written by wip/hprint.py of this repo over the kit's printer; nothing here is trusted: Lean checks it. -/
import Derived.Test.YtekllnpmioinfaaPC10x0
import Derived.Test.YtekllnpmioinfaaPC10x2
namespace Go.Proofs.Ytekllnpmioinfaa.PC10
open Go.RowKit Go.Proofs.YtekllnpmioinfaaW.PrintWords Go.Proofs.YtekllnpmioinfaaW.PrintLast Go.Proofs.YtekllnpmioinfaaW.PrintMore
attribute [local go_sem] max2_int min2_int max_two min_two max_three min_three max_four min_four   -- for this text's walks alone
set_option linter.unusedVariables false
set_option linter.unusedSimpArgs false

/-! ### class_Of: function 34: by hand -/
def class_Of.cells (r : S69) : List Value := [.int .i64 r.f0, .int .i64 r.f1, .int .i64 r.f2]
/-- The class of the span that has a number; 0, if none has it. -/
def class_Of.spn : List S69 → Int → Int
  | [], _ => 0
  | r :: l, c => if r.f1 < c then class_Of.spn l c else if c < r.f0 then 0 else r.f2
def class_Of.val (c : Int) : Int := class_Of.spn class_spans.L c
def class_Of.f (a0 : Int) : Option Int := some (class_Of.val a0)
section
open Go.Proofs.YtekllnpmioinfaaH
def class_Of.side (r : S69) (c : Int) : Int := if r.f1 < c then -1 else if c < r.f0 then 1 else 0
theorem class_Of.cmp (f t k c : Int) (W : World) : Calls Try.prog 51 #[.agg #[.int .i64 f, .int .i64 t, .int .i64 k], .int .i64 c] W fun e w' => e = .returned (.int .i64 (class_Of.side (⟨f, t, k⟩ : S69) c)) ∧ Below W.heap.size W w' := by
  unfold class_Of.side
  by_cases h1 : t < c
  · rw [if_pos h1]
    have b1 : decide (t < c) = true := decide_eq_true h1
    clear h1
    go_enter Try.func51, Try.ntmps51
    go_wp2
    go_ret
    exact ⟨rfl, below_alloc (Below.refl _ _) _⟩
  · rw [if_neg h1]
    have b1 : decide (t < c) = false := decide_eq_false h1
    clear h1
    by_cases h2 : c < f
    · rw [if_pos h2]
      have b2 : decide (c < f) = true := decide_eq_true h2
      clear h2
      go_enter Try.func51, Try.ntmps51
      go_wp2
      go_ret
      exact ⟨rfl, below_alloc (Below.refl _ _) _⟩
    · rw [if_neg h2]
      have b2 : decide (c < f) = false := decide_eq_false h2
      clear h2
      go_enter Try.func51, Try.ntmps51
      go_wp2
      go_ret
      exact ⟨rfl, below_alloc (Below.refl _ _) _⟩
/-- What a search among n rows answers, of which S tells on which side each one is. -/
def class_Of.SPost (S : Nat → Int) (n : Nat) (w : World) (e : Ending) (w' : World) : Prop :=
  ∃ q : Nat, e = .returned (.tuple #[.int .i64 (q : Int), .bool (decide (q < n ∧ S q = 0))]) ∧ Below w.heap.size w w' ∧ q ≤ n ∧ ((∀ a b, a ≤ b → b < n → S b < 0 → S a < 0) → (∀ t, t < q → S t < 0) ∧ (∀ t, q ≤ t → t < n → 0 ≤ S t))
set_option maxHeartbeats 1000000 in
set_option maxRecDepth 100000 in
theorem class_Of.search (R : Nat → S69) (S : Nat → Int) (g c n : Nat) (y : Int) (w : World) (hg : g < w.heap.size) (hc : ∀ j, j < n → ∀ (k : Nat) v, (class_Of.cells (R j))[k]? = some v → w.cell? ⟨g, j * 3 + k, none⟩ = some v) (hlen : n < 1000000)
    (hS : ∀ j, j < n → ∀ W : World, Calls Try.prog 51 #[.agg #[.int .i64 (R j).f0, .int .i64 (R j).f1, .int .i64 (R j).f2], .int .i64 y] W fun e w' => e = .returned (.int .i64 (S j)) ∧ Below W.heap.size W w') :
    Calls Try.prog 50 #[.slice (some ⟨g, 0, none⟩) n c, .int .i64 y, .func (.func 51) #[] #[]] w (class_Of.SPost S n w) := by
  have eg : ∀ args w, (callFunc 51 args).run Try.prog w = .ok (.enter 51 args) w := enters_of Try.func51 (by kernel_rfl) rfl
  have HC := Aside0.mk hc
  have HSC := Aside0.mk hS
  have HG := Aside0.mk hg
  have HB0 := Aside0.mk (Below.refl w.heap.size w)
  clear hc hS hg
  go_enter Try.func50, Try.ntmps50
  go_wp2
  go_loopg [9, 10] n (fun kx s9 s10 wr => ∃ lo hi : Nat, s9 = .int .i64 lo ∧ s10 = .int .i64 hi ∧ lo ≤ hi ∧ hi ≤ n ∧ hi - lo ≤ kx ∧ Aside0 (Below w.heap.size w wr) ∧ Aside0 ((∀ a b, a ≤ b → b < n → S b < 0 → S a < 0) → (∀ t, t < lo → S t < 0) ∧ (∀ t, hi ≤ t → t < n → 0 ≤ S t)))
  case atStart => exact ⟨0, n, rfl, rfl, Nat.zero_le _, Nat.le_refl _, by omega, HB0, ⟨fun _ => ⟨fun t ht => absurd ht (Nat.not_lt_zero _), fun t h1 h2 => by omega⟩⟩⟩
  case round =>
    clear HB0
    obtain ⟨lo, hi, rfl, rfl, hlh, hin, hk, HB, I⟩ := hrel
    by_cases hlt : lo < hi
    · have cm : ∀ (k : Nat) v, (class_Of.cells (R ((lo + hi) / 2)))[k]? = some v → wr.cell? ⟨g, (lo + hi) / 2 * 3 + k, none⟩ = some v := fun k v h => (HB.out.cell (p := ⟨g, (lo + hi) / 2 * 3 + k, none⟩) HG.out).trans (HC.out _ (by omega) k v h)
      have hsm := HSC.out ((lo + hi) / 2) (by omega)
      rcases hv : R ((lo + hi) / 2) with ⟨rf, rt, rk⟩
      rw [hv] at cm hsm
      have cm0 : wr.cell? ⟨g, (lo + hi) / 2 * 3, none⟩ = some (.int .i64 rf) := cm 0 _ rfl
      have cm1 : wr.cell? ⟨g, (lo + hi) / 2 * 3 + 1, none⟩ = some (.int .i64 rt) := cm 1 _ rfl
      have cm2 : wr.cell? ⟨g, (lo + hi) / 2 * 3 + 2, none⟩ = some (.int .i64 rk) := cm 2 _ rfl
      clear hv cm
      have HSM := Aside0.mk hsm
      clear hsm
      generalize hsv : S ((lo + hi) / 2) = s at HSM
      have V := Aside0.mk hsv
      clear hsv
      by_cases h1 : s < 0
      · have HV := Aside0.mk h1
        have hb1 : decide (s < 0) = true := decide_eq_true h1
        clear h1
        go_wp2_with (go_at_fn 51; refine (HSM.out _).mono ?_; rintro e w2 ⟨rfl, hb2⟩; have n0_ := Aside0.mk (below_step HB.out hb2); clear HB hb2; have HB := n0_; clear n0_)
        go_roundg (hi - ((lo + hi) / 2 + 1))
        case measure => omega
        case rel =>
          refine ⟨(lo + hi) / 2 + 1, hi, by rw [show ((lo : Int) + (hi : Int)) / 2 + 1 = (((lo + hi) / 2 + 1 : Nat) : Int) by omega], rfl, by omega, hin, Nat.le_refl _, HB, ⟨fun hm => ⟨fun t ht => ?_, (I.out hm).2⟩⟩⟩
          exact hm t ((lo + hi) / 2) (by omega) (by omega) (by rw [V.out]; exact HV.out)
      · have HV := Aside0.mk h1
        have hb1 : decide (s < 0) = false := decide_eq_false h1
        clear h1
        go_wp2_with (go_at_fn 51; refine (HSM.out _).mono ?_; rintro e w2 ⟨rfl, hb2⟩; have n0_ := Aside0.mk (below_step HB.out hb2); clear HB hb2; have HB := n0_; clear n0_)
        go_roundg ((lo + hi) / 2 - lo)
        case measure => omega
        case rel =>
          refine ⟨lo, (lo + hi) / 2, rfl, by rw [show ((lo : Int) + (hi : Int)) / 2 = (((lo + hi) / 2 : Nat) : Int) by omega], by omega, by omega, Nat.le_refl _, HB, ⟨fun hm => ⟨(I.out hm).1, fun t ht htn => ?_⟩⟩⟩
          have h5 := HV.out
          rw [← V.out] at h5
          refine Int.not_lt.1 (fun h6 => absurd (hm ((lo + hi) / 2) t ht htn h6) (Int.not_lt.2 (Int.not_lt.1 (fun h7 => absurd h7 (by simpa using h5)))))
    · obtain rfl : hi = lo := by omega
      by_cases hcn : hi < n
      · have cm : ∀ (k : Nat) v, (class_Of.cells (R hi))[k]? = some v → wr.cell? ⟨g, hi * 3 + k, none⟩ = some v := fun k v h => (HB.out.cell (p := ⟨g, hi * 3 + k, none⟩) HG.out).trans (HC.out _ hcn k v h)
        have hsm := HSC.out hi hcn
        rcases hv : R hi with ⟨rf, rt, rk⟩
        rw [hv] at cm hsm
        have cm0 : wr.cell? ⟨g, hi * 3, none⟩ = some (.int .i64 rf) := cm 0 _ rfl
        have cm1 : wr.cell? ⟨g, hi * 3 + 1, none⟩ = some (.int .i64 rt) := cm 1 _ rfl
        have cm2 : wr.cell? ⟨g, hi * 3 + 2, none⟩ = some (.int .i64 rk) := cm 2 _ rfl
        clear hv cm
        have HSM := Aside0.mk hsm
        clear hsm
        generalize hsv : S hi = s at HSM
        have V := Aside0.mk hsv
        clear hsv
        by_cases h1 : s = 0
        · subst h1
          go_wp2_with (go_at_fn 51; refine (HSM.out _).mono ?_; rintro e w2 ⟨rfl, hb2⟩; have n0_ := Aside0.mk (below_step HB.out hb2); clear HB hb2; have HB := n0_; clear n0_)
          go_ret2
          exact ⟨hi, by rw [decide_eq_true (show hi < n ∧ S hi = 0 from ⟨hcn, V.out⟩)]; rfl, HB.out, hin, I.out⟩
        · have hb1 : (s == 0) = false := beq_eq_false_iff_ne.2 h1
          have HV := Aside0.mk h1
          clear h1
          go_wp2_with (go_at_fn 51; refine (HSM.out _).mono ?_; rintro e w2 ⟨rfl, hb2⟩; have n0_ := Aside0.mk (below_step HB.out hb2); clear HB hb2; have HB := n0_; clear n0_)
          go_ret2
          exact ⟨hi, by rw [decide_eq_false (show ¬ (hi < n ∧ S hi = 0) from fun h => HV.out (V.out ▸ h.2))]; rfl, HB.out, hin, I.out⟩
      · go_wp2
        go_ret2
        exact ⟨hi, by rw [decide_eq_false (show ¬ (hi < n ∧ S hi = 0) from fun h => hcn h.1)]; rfl, HB.out, hin, I.out⟩

theorem class_Of.spn_at : ∀ (l : List S69) (c : Int) (q : Nat), q ≤ l.length → (∀ t, t < q → (l.getD t z69).f1 < c) → (∀ t, q ≤ t → t < l.length → c ≤ (l.getD t z69).f1) → class_Of.spn l c = if q < l.length ∧ (l.getD q z69).f0 ≤ c then (l.getD q z69).f2 else 0
  | [], c, q, hq, _, _ => by
    obtain rfl : q = 0 := by simpa using hq
    rfl
  | r :: l, c, 0, hq, h1, h2 => by
    have h3 : c ≤ r.f1 := h2 0 (Nat.le_refl _) (by simp)
    unfold class_Of.spn
    rw [if_neg (by omega)]
    by_cases h4 : c < r.f0
    · rw [if_pos h4, if_neg (fun h => by have : r.f0 ≤ c := h.2; omega)]
    · rw [if_neg h4, if_pos ⟨by simp, by show r.f0 ≤ c; omega⟩]
      rfl
  | r :: l, c, q + 1, hq, h1, h2 => by
    have h3 : r.f1 < c := h1 0 (by omega)
    have ih := class_Of.spn_at l c q (by simpa using hq) (fun t ht => by simpa using h1 (t + 1) (by omega)) (fun t ht1 ht2 => by simpa using h2 (t + 1) (by omega) (by simpa using ht2))
    unfold class_Of.spn
    rw [if_pos h3, ih]
    simp
def class_Of.row (j : Nat) : S69 := class_spans.L.getD j z69
set_option maxRecDepth 100000 in
theorem class_Of.row_up : ∀ a b, a < b → b < 166 → (class_Of.row a).f1 < (class_Of.row b).f1 := by
  have h : ∀ b : Fin 166, ∀ a : Fin b.val, (class_Of.row a.val).f1 < (class_Of.row b.val).f1 := by decide +kernel
  exact fun a b h1 h2 => h ⟨b, h2⟩ ⟨a, h1⟩
theorem class_Of.len : class_spans.L.length = 166 := by decide +kernel
set_option maxHeartbeats 4000000 in
set_option maxRecDepth 100000 in
theorem class_Of.calls (a0 : Int) (r : Int) (w : World) (h : class_Of.f a0 = some r) :
    Calls Try.prog 34 #[.int .i64 a0] w fun e w' => e = .returned (.int .i64 r) ∧ Below w.heap.size w w' := by
  have HV := Aside0.mk (show class_Of.val a0 = r from Option.some.inj h)
  clear h
  have HB := Aside0.mk (Below.refl w.heap.size w)
  have HL := Aside0.mk class_Of.len
  have HSE := Aside0.mk (fun g W c (hg : g < W.heap.size) hc => class_Of.search class_Of.row (fun j => class_Of.side (class_Of.row j) a0) g c 166 a0 W hg hc (by decide) (fun j _ W => class_Of.cmp _ _ _ _ _))
  have HUP := Aside0.mk class_Of.row_up
  have HAT := Aside0.mk (class_Of.spn_at class_spans.L a0)
  have HSP := Aside0.mk (fun W => class_spans.calls class_spans.L W rfl)
  have HRW := Aside0.mk (show ∀ j, class_spans.L.getD j z69 = class_Of.row j from fun j => rfl)
  unfold class_Of.val at HV
  generalize class_spans.L = L at *
  go_enter Try.func34, Try.ntmps34
  go_wp2_with (go_at_call 49; refine (HSP.out _).mono ?_; rintro e w1 ⟨v1, rfl, hO, hb1⟩; obtain ⟨g, c, rfl, hgb, hgl, hty⟩ := Kd.R_form hO (by rw [HL.out]; decide); have n0_ := Aside0.mk (below_step HB.out hb1); clear HB hb1 hty; have HB := n0_; clear n0_; have HO := Aside0.mk (Kd.R_reads hO); clear hO; rw [HL.out] at HO; (try rw [HL.out]))
  have HC : Aside0 (∀ j, j < 166 → ∀ (k : Nat) v, (class_Of.cells (class_Of.row j))[k]? = some v → w1.cell? ⟨g, j * 3 + k, none⟩ = some v) := ⟨fun j hj k v hk => by
    obtain ⟨A, c', he, hlc, hC⟩ := HO.out
    injection he with he _ _
    subst he
    obtain ⟨ad, hA, hcell⟩ := hC.2.2 (by omega)
    injection hA with hA
    subst hA
    have hL : L[j]? = some (class_Of.row j) := by
      have h1 : j < L.length := by rw [HL.out]; exact hj
      rw [List.getElem?_eq_getElem h1, ← HRW.out j, List.getD_eq_getElem?_getD, List.getElem?_eq_getElem h1]
      rfl
    obtain ⟨cs, _, hK, hcc⟩ := hcell j _ hL
    obtain rfl := k69_open hK
    have h3 := hcc k v hk
    have ea : (⟨g, 0, none⟩ : Addr).add (j * 3 + k) = ⟨g, j * 3 + k, none⟩ := by
      by_cases h0 : j * 3 + k = 0
      · rw [h0]; rfl
      · simp [Addr.add]
        omega
    exact (congrArg w1.cell? ea).symm.trans h3⟩
  clear HO
  refine (HSE.out g w1 c hgl HC.out).mono ?_
  rintro e w4 ⟨q, rfl, hb4, hqn, hmq⟩
  have HC4 := Aside0.mk (fun j hj k v h_ => (hb4.cell (p := ⟨g, j * 3 + k, none⟩) hgl).trans (HC.out j hj k v h_))
  have n0_ := Aside0.mk (below_step HB.out hb4)
  clear HB hb4 HC
  have HB := n0_
  clear n0_
  have hm := hmq (fun a b hab hb hs => by
    have e1 : (class_Of.row b).f1 < a0 := by
      simp only [class_Of.side] at hs
      split at hs
      · assumption
      · split at hs <;> omega
    have e2 : (class_Of.row a).f1 < a0 := by
      by_cases e : a = b
      · subst e; exact e1
      · have := HUP.out a b (by omega) hb
        omega
    simp only [class_Of.side]
    rw [if_pos e2]
    decide)
  have hv := HAT.out q (by rw [HL.out]; exact hqn) (fun t ht => by
    have := hm.1 t ht
    rw [HRW.out]
    simp only [class_Of.side] at this
    split at this
    · assumption
    · split at this <;> omega) (fun t ht1 ht2 => by
    rw [HL.out] at ht2
    have := hm.2 t ht1 ht2
    rw [HRW.out]
    simp only [class_Of.side] at this
    split at this
    · omega
    · omega)
  rw [HV.out, HL.out, HRW.out] at hv
  have hside : q < 166 → class_Of.side (class_Of.row q) a0 = 0 → (class_Of.row q).f0 ≤ a0 := fun h1 h2 => by
    simp only [class_Of.side] at h2
    split at h2
    · omega
    · split at h2 <;> omega
  have hside2 : q < 166 → (class_Of.row q).f0 ≤ a0 → class_Of.side (class_Of.row q) a0 = 0 := fun h1 h2 => by
    have := hm.2 q (Nat.le_refl _) h1
    simp only [class_Of.side] at this ⊢
    split at this
    · omega
    · rename_i h3
      rw [if_neg h3, if_neg (by omega)]
  clear hm hmq
  by_cases hq : q < 166 ∧ (class_Of.row q).f0 ≤ a0
  · rw [if_pos hq] at hv
    rw [show decide (q < 166 ∧ (fun j => class_Of.side (class_Of.row j) a0) q = 0) = true from decide_eq_true ⟨hq.1, hside2 hq.1 hq.2⟩]
    have cm2 : w4.cell? ⟨g, q * 3 + 2, none⟩ = some (.int .i64 (class_Of.row q).f2) := HC4.out q hq.1 2 _ rfl
    have HQ := Aside0.mk hv
    have hq1 := hq.1
    clear hv hside hside2 hq HC4 HSE HUP HAT HSP HRW HV HL hqn
    generalize (class_Of.row q).f2 = kk at *
    go_wp2
    go_ret
    exact ⟨by rw [HQ.out]; rfl, HB.out⟩
  · rw [if_neg hq] at hv
    rw [show decide (q < 166 ∧ (fun j => class_Of.side (class_Of.row j) a0) q = 0) = false from decide_eq_false (fun h => hq ⟨h.1, hside h.1 h.2⟩)]
    have HQ := Aside0.mk hv
    clear hv hside hside2 hq HC4 HSE HUP HAT HSP HRW HV HL hqn
    go_wp2
    go_ret
    exact ⟨by rw [HQ.out]; rfl, HB.out⟩
end


end Go.Proofs.Ytekllnpmioinfaa.PC10
