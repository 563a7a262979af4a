/- For the laws of the group C10: the Lean functions that the Go functions compute, and proofs that they do. Written by wip/hprint.py of this repo over the kit's printer; nothing here is trusted: Lean checks it. -/
import Derived.Test.YtekllnpmioinfaaPC10x0
import Derived.Test.YtekllnpmioinfaaPC10x5
import Derived.Test.YtekllnpmioinfaaPC10x6
namespace Go.Proofs.Ytekllnpmioinfaa.PC10
open Go.RowKit Go.Proofs.YtekllnpmioinfaaW.PrintWords Go.Proofs.YtekllnpmioinfaaW.PrintLast Go.Proofs.YtekllnpmioinfaaW.PrintMore
attribute [local go_sem] max2_int min2_int max_two min_two max_three min_three max_four min_four   -- for this text's walks alone
set_option linter.unusedVariables false
set_option linter.unusedSimpArgs false

/-! ### parquetrylaw10_of: function 32 -/
def parquetrylaw10_of.l0 : Nat → List Int → List (S36) → Int → Option ((List (S36)))
  | 0, _, _, _ => none
  | k + 1, x0, x3, x4 => if x4 < (x0.length : Int) then (if 0 ≤ x4 then (if x3.length < 5864062014805 then (parquetrylaw10_of.l0 k x0 (x3 ++ [(⟨x4, 1, rd x0 x4⟩ : S36)]) (wrap64 (x4 + 1))) else (none)) else (none)) else (some x3)
def parquetrylaw10_of.f (k : Nat) (l0 : List Int) : Option ((List (S36))) := parquetrylaw10_of.l0 k l0 ([] : List (S36)) 0
theorem parquetrylaw10_of.mono_l : ∀ k, (∀ y0 y1 y2, LeO (parquetrylaw10_of.l0 k y0 y1 y2) (parquetrylaw10_of.l0 (k + 1) y0 y1 y2))
  | 0 => fun _ _ _ r h => by simp [parquetrylaw10_of.l0] at h
  | k + 1 => by
    have ih0 := parquetrylaw10_of.mono_l k
    · intro y0 y1 y2
      unfold parquetrylaw10_of.l0
      repeat' first
      | (with_reducible exact ih0 _ _ _)
      | (with_reducible exact LeO.refl _)
      | (with_reducible exact LeO.none _)
      | (with_reducible refine LeO.ite ?_ ?_)
      | (with_reducible refine LeO.bind ?_ (fun _ => ?_))
      | exact ih0 _ _ _
      | exact LeO.none _
      | refine LeO.ite ?_ ?_
      | refine LeO.bind ?_ (fun _ => ?_)
theorem parquetrylaw10_of.mono : ∀ a0 k, LeO (parquetrylaw10_of.f k a0) (parquetrylaw10_of.f (k + 1) a0) := by
  intro a0 k
  have ih0 := parquetrylaw10_of.mono_l k
  unfold parquetrylaw10_of.f
  repeat' first
      | (with_reducible exact ih0 _ _ _)
      | (with_reducible exact LeO.refl _)
      | (with_reducible exact LeO.none _)
      | (with_reducible refine LeO.ite ?_ ?_)
      | (with_reducible refine LeO.bind ?_ (fun _ => ?_))
      | exact ih0 _ _ _
      | exact LeO.none _
      | refine LeO.ite ?_ ?_
      | refine LeO.bind ?_ (fun _ => ?_)
set_option maxHeartbeats 8000000 in
set_option maxRecDepth 100000 in
theorem parquetrylaw10_of.calls (k : Nat) (A0 : Option Addr) (c0 : Nat) (l0 : List Int) (r : List (S36)) (w : World) (hr0 : Kd.C (Kd.int .i64) w A0 l0.length l0) (hc0 : l0.length ≤ c0) (h : parquetrylaw10_of.f k l0 = some r) :
    Calls Try.prog 32 #[.slice A0 l0.length c0] w fun e w' => ∃ v0_ : Value, e = .returned (v0_) ∧ Kd.R k36 36 w' w.heap.size (fun _ => True) v0_ r ∧ Below w.heap.size w w' := by
  have hu36 := Try.underlying36
  have HR0 := Aside0.mk hr0
  have HC0 := Aside0.mk hc0
  clear hr0 hc0
  have HB := Aside0.mk (Below.refl w.heap.size w)
  have H : (parquetrylaw10_of.l0 k l0 ([] : List (S36)) 0) = some r := h
  clear h
  have H' := Aside0.mk H
  clear H
  go_enter Try.func32, Try.ntmps32
  try dsimp only [List.append]
  go_wp2
  go_loopg [3, 4] k (fun kq v3 v4 w' => ∃ (x3_1 : List (S36)) (x4_1 : Int), v4 = .int .i64 x4_1 ∧ Aside0 (parquetrylaw10_of.l0 kq l0 x3_1 x4_1 = some r) ∧ Aside0 (kq ≤ k) ∧ Aside0 (Kd.R k36 36 w' w.heap.size (fun _ => True) v3 x3_1) ∧ Aside0 (Below w.heap.size w w'))
  case atStart => exact ⟨(([] : List (S36))), (0), (by first | rfl | (simp; done) | (simp [*]; done)), H', ⟨Nat.le_refl _⟩, ⟨by first | exact Kd.R_nil _ _ _ _ _ | exact Kd.N_nil _ _ _ _ _ | exact Kd.V_nil _ _ _ _ _ | exact Kd.Q_nil _ _ _ _ _ | exact Kd.S_nil _ _ _ _ _⟩, ⟨by repeat (first | (with_reducible first | exact HB.out | apply below_alloc | apply pw_below_drewN | apply below_drew1) | exact HB.out)⟩⟩
  case round =>
    clear H'
    obtain ⟨x3_1, x4_1, rfl, HA, HK1, HO_3, HB⟩ := hrel
    cases gk with
    | zero => exact absurd HA.out (by simp [parquetrylaw10_of.l0])
    | succ k1 =>
      have H := HA.out
      clear HA
      simp only [parquetrylaw10_of.l0] at H
      by_cases c2 : x4_1 < (l0.length : Int)
      · rw [if_pos c2] at H
        have c2b0 : decide (x4_1 < (l0.length : Int)) = true := decide_eq_true c2
        clear c2
        by_cases c3 : 0 ≤ x4_1
        · rw [if_pos c3] at H
          have c3b0 : decide (0 ≤ x4_1) = true := decide_eq_true c3
          clear c3
          by_cases c4 : x3_1.length < 5864062014805
          · rw [if_pos c4] at H
            have LMc4 := Aside0.mk c4
            clear c4
            obtain ⟨y147, hy147⟩ : ∃ y_ : List (S36), y_ = (x3_1 ++ [(⟨x4_1, 1, rd l0 x4_1⟩ : S36)]) := ⟨_, rfl⟩
            replace H : (parquetrylaw10_of.l0 k1 l0 y147 (wrap64 (x4_1 + 1))) = some r := by first | (rw [hy147]; with_reducible exact H) | (have H2_ := (Option.bind_some _ _).symm.trans H; rw [hy147]; with_reducible exact H2_) | (have H2_ := (Option.bind_some _ _).symm.trans H; with_reducible exact H2_) | with_reducible exact H | (rw [hy147]; exact H) | exact H
            have Ny147 := Aside0.mk hy147
            clear hy147
            have H' := Aside0.mk H
            clear H
            have p146 : 0 ≤ (x4_1 : Int) := of_decide_eq_true (by first | (with_reducible assumption) | assumption)
            have q146 : x4_1 < (l0.length : Int) := of_decide_eq_true (by first | (with_reducible assumption) | assumption)
            obtain ⟨ad146, e146, hx146_0⟩ := Kd.at_int HR0.out x4_1 p146 q146
            cases e146
            replace hx146_0 := (HB.out.cell (World.block_lt_of_cell? w _ hx146_0)).trans hx146_0
            replace p146 := eq_true p146
            replace q146 := eq_true q146
            go_wp2_with (first | ((with_reducible refine gate_builtin (b := .append) (xs := #[.tmp 11, .tmp 18]) rfl ?_); at_builtin; refine Kd.R_append k36 (w0 := w) w.heap.size rfl (.tmp 11) (.tmp 18) 22 36 (.agg #[(.int .i64 0), (.int .i64 0), (.int .i64 0)]) 24 rfl Try.underlying22 info36 rfl (by decide) (by omega) u3 x3_1 (⟨x4_1, 1, rd l0 x4_1⟩ : S36) [.int .i64 x4_1, .int .i64 1, .int .i64 (rd l0 x4_1)] (fun _ => True) (fun _ => False) rfl rfl ?aP (fun _ hk => hk.elim) ?aF ?aO ?aB ?aS ?aL ?_; (case aP => exact k36_mkM _ _ _ (⟨x4_1, 1, rd l0 x4_1⟩ : S36)); (case aB => exact (by repeat (first | (with_reducible first | exact HB.out | apply below_alloc | apply pw_below_drewN | apply below_drew1) | exact HB.out))); (case aF => exact (fun _ _ => trivial)); (case aO => exact (by (with_reducible repeat (first | apply Kd.R_alloc | apply Kd.R_drewN | apply Kd.R_drew)); exact HO_3.out)); (case aS => exact (below_size (by repeat (first | (with_reducible first | exact HB.out | apply below_alloc | apply pw_below_drewN | apply below_drew1) | exact HB.out)))); (case aL => have := LMc4.out; omega); intro v148 w5 ho hb hg hat; rw [← Ny147.out] at ho; have n0_ := Aside0.mk (hb); have n1_ := Aside0.mk (ho); clear HB; clear HO_3; have HB := n0_; have HO149 := n1_; clear n0_ n1_; clear ho hb hg hat))
            go_roundg k1
            case measure => have := HK1.out; omega
            case rel => exact ⟨(y147), (wrap64 (x4_1 + 1)), (by first | rfl | (simp; done) | (simp [*]; done)), H', ⟨by have := HK1.out; omega⟩, ⟨by (with_reducible repeat (first | apply Kd.R_alloc | apply Kd.R_drewN | apply Kd.R_drew)); exact HO149.out⟩, ⟨by repeat (first | (with_reducible first | exact HB.out | apply below_alloc | apply pw_below_drewN | apply below_drew1) | exact HB.out)⟩⟩
          · rw [if_neg c4] at H
            exact absurd H (by simp)
        · rw [if_neg c3] at H
          exact absurd H (by simp)
      · rw [if_neg c2] at H
        have c2b0 : decide (x4_1 < (l0.length : Int)) = false := decide_eq_false c2
        clear c2
        obtain rfl := Option.some.inj H
        go_wp2
        go_ret
        exact ⟨_, by first | rfl | (simp [errW_none, errW_some] <;> rfl) | (simp [*, errW_none, errW_some] <;> rfl), by (with_reducible repeat (first | apply Kd.R_alloc | apply Kd.R_drewN | apply Kd.R_drew)); exact HO_3.out, by repeat (first | (with_reducible first | exact HB.out | apply below_alloc | apply pw_below_drewN | apply below_drew1) | exact HB.out)⟩

/-! ### base_Level: function 21: by hand -/
def base_Level.l0 : Nat → List Int → List Int → Int → Option (Int × Bool)
  | 0, _, _, _ => none
  | k + 1, x0, m, i => if i < (x0.length : Int) then (if 0 ≤ i then (if rd x0 i = 0 then some (0, true) else if rd x0 i = 1 then some (1, true) else if rd x0 i = 2 then some (1, true) else (base_opens.f (rd x0 i)).bind fun t => if t = true then (if i < (m.length : Int) then base_Level.l0 k x0 m (wrap64 (rd m i + 1)) else none) else base_Level.l0 k x0 m (wrap64 (i + 1))) else none) else some (0, false)
def base_Level.f (k : Nat) (l0 : List Int) : Option (Int × Bool) := (base_Match.f k l0).bind fun m => base_Level.l0 k l0 m 0
theorem base_Level.mono_l : ∀ k, ∀ y0 y1 y2, LeO (base_Level.l0 k y0 y1 y2) (base_Level.l0 (k + 1) y0 y1 y2) := by
  intro k
  induction k with
  | zero => intro y0 y1 y2 r h; simp [base_Level.l0] at h
  | succ k ih =>
    intro y0 y1 y2
    conv => lhs; simp only [base_Level.l0]
    conv => rhs; rw [base_Level.l0]
    repeat (first | exact LeO.refl _ | exact ih _ _ _ | refine LeO.ite ?_ ?_ | refine LeO.bind (LeO.refl _) (fun x => ?_))
theorem base_Level.mono : ∀ a0 k, LeO (base_Level.f k a0) (base_Level.f (k + 1) a0) := by
  intro a0 k
  unfold base_Level.f
  exact LeO.bind (base_Match.mono _ _) (fun x => base_Level.mono_l k _ _ _)
section
open Go.Proofs.YtekllnpmioinfaaH
set_option maxHeartbeats 8000000 in
set_option maxRecDepth 100000 in
theorem base_Level.calls (k : Nat) (A0 : Option Addr) (c0 : Nat) (l0 : List Int) (r1 : Int) (r2 : Bool) (w : World) (hr0 : Kd.C (Kd.int .i64) w A0 l0.length l0) (hc0 : l0.length ≤ c0) (h : base_Level.f k l0 = some (r1, r2)) :
    Calls Try.prog 21 #[.slice A0 l0.length c0] w fun e w' => e = .returned (.tuple #[.int .i64 r1, .bool r2]) ∧ Below w.heap.size w w' := by
  have HR0 := Aside0.mk hr0
  have HC0 := Aside0.mk hc0
  clear hr0 hc0
  obtain ⟨m, hm, hl⟩ := Option.bind_eq_some_iff.1 h
  have HM := Aside0.mk hm
  have HA := Aside0.mk hl
  clear hm hl h
  have HB := Aside0.mk (Below.refl w.heap.size w)
  go_enter Try.func21, Try.ntmps21
  go_wp2
  refine scope_from 0 (fun kq a' w' => ∃ (v4 : Value) (i : Int) (u6 u7 u8 u9 u10 u11 u12 u13 u14 u15 u16 u17 u18 u19 u20 u21 u22 u23 u24 u25 u26 u27 u28 u29 u30 u31 u32 u33 u34 u35 : Value), a' = { tmps := #[.slice A0 l0.length c0, undef, .int .i64 0, .bool false, v4, .int .i64 i, u6, u7, u8, u9, u10, u11, u12, u13, u14, u15, u16, u17, u18, u19, u20, u21, u22, u23, u24, u25, u26, u27, u28, u29, u30, u31, u32, u33, u34, u35], defers := [] } ∧ Aside0 (base_Level.l0 kq l0 m i = some (r1, r2)) ∧ Aside0 (Kd.R (Kd.int .i64) 3 w' w.heap.size (fun _ => True) v4 m) ∧ Aside0 (Below w.heap.size w w')) rfl ?_ ?_
  · clear HA HB
    rintro kq a' wr ⟨v4, i, u6, u7, u8, u9, u10, u11, u12, u13, u14, u15, u16, u17, u18, u19, u20, u21, u22, u23, u24, u25, u26, u27, u28, u29, u30, u31, u32, u33, u34, u35, rfl, HA, HO, HB⟩
    cases kq with
    | zero => exact absurd HA.out (by simp [base_Level.l0])
    | succ k1 =>
      have H := HA.out
      clear HA
      simp only [base_Level.l0] at H
      by_cases c1 : i < (l0.length : Int)
      · rw [if_pos c1] at H
        by_cases c2 : 0 ≤ i
        · rw [if_pos c2] at H
          obtain ⟨ad, e1, hx⟩ := Kd.at_int HR0.out i c2 c1
          cases e1
          replace hx := (HB.out.cell (World.block_lt_of_cell? w _ hx)).trans hx
          have c1b0 : decide ((l0.length : Int) ≤ i) = false := decide_eq_false (by omega)
          have c1b1 : decide (i < (l0.length : Int)) = true := decide_eq_true c1
          have c2b0 : decide (0 ≤ i) = true := decide_eq_true c2
          have HC := Aside0.mk (And.intro c1 c2)
          have c1b2 := eq_true c1
          have c2b1 := eq_true c2
          clear c1 c2
          generalize rd l0 i = c at *
          by_cases d0 : c = 0
          · rw [if_pos d0] at H
            obtain ⟨rfl, rfl⟩ : 0 = r1 ∧ true = r2 := by simpa using H
            clear H
            subst d0
            go_wp2
            simp only [Exit.jump]
            go_ret2
            exact ⟨rfl, HB.out⟩
          · rw [if_neg d0] at H
            have d0b : (c == 0) = false := beq_eq_false_iff_ne.2 d0
            clear d0
            by_cases d1 : c = 1
            · rw [if_pos d1] at H
              obtain ⟨rfl, rfl⟩ : 1 = r1 ∧ true = r2 := by simpa using H
              clear H d0b
              subst d1
              go_wp2
              simp only [Exit.jump]
              go_ret2
              exact ⟨rfl, HB.out⟩
            · rw [if_neg d1] at H
              have d1b : (c == 1) = false := beq_eq_false_iff_ne.2 d1
              clear d1
              by_cases d2 : c = 2
              · rw [if_pos d2] at H
                obtain ⟨rfl, rfl⟩ : 1 = r1 ∧ true = r2 := by simpa using H
                clear H d0b d1b
                subst d2
                go_wp2
                simp only [Exit.jump]
                go_ret2
                exact ⟨rfl, HB.out⟩
              · rw [if_neg d2] at H
                have d2b : (c == 2) = false := beq_eq_false_iff_ne.2 d2
                clear d2
                obtain ⟨t, ht, H⟩ := Option.bind_eq_some_iff.1 H
                have HT := Aside0.mk ht
                clear ht
                cases t with
                | true =>
                  rw [if_pos rfl] at H
                  by_cases d3 : i < (m.length : Int)
                  · rw [if_pos d3] at H
                    have H' := Aside0.mk H
                    clear H
                    obtain ⟨g4, c4, rfl, hgb, hgl, hty⟩ := Kd.R_form HO.out (by have := HC.out.2; omega)
                    clear hgb hgl hty
                    obtain ⟨hx4, hf4⟩ := Kd.R_celln 0 HO.out i HC.out.2 d3
                    clear hf4
                    replace hx4 : wr.cell? ⟨g4, i.toNat, none⟩ = some (.int .i64 (rd m i)) := hx4
                    generalize rd m i = mi at *
                    have d3b : decide (i < (m.length : Int)) = true := decide_eq_true d3
                    have d3c := eq_true d3
                    clear d3
                    go_wp2_with (go_at_call 36; (with_reducible refine (base_opens.calls c true _ HT.out).mono ?_); rintro e w' ⟨rfl, ⟨nd, rfl⟩⟩)
                    go_step3
                    exact ⟨rfl, k1, Nat.lt_succ_self _, _, _, _, _, _, _, _, _, _, _, _, _, _, _, _, _, _, _, _, _, _, _, _, _, _, _, _, _, _, _, _, _, rfl, H', ⟨Kd.R_drewN HO.out _⟩, ⟨pw_below_drewN HB.out _⟩⟩
                  · rw [if_neg d3] at H
                    cases H
                | false =>
                  rw [if_neg (by decide)] at H
                  have H' := Aside0.mk H
                  clear H
                  go_wp2_with (go_at_call 36; (with_reducible refine (base_opens.calls c false _ HT.out).mono ?_); rintro e w' ⟨rfl, ⟨nd, rfl⟩⟩)
                  go_step3
                  exact ⟨rfl, k1, Nat.lt_succ_self _, _, _, _, _, _, _, _, _, _, _, _, _, _, _, _, _, _, _, _, _, _, _, _, _, _, _, _, _, _, _, _, _, rfl, H', ⟨Kd.R_drewN HO.out _⟩, ⟨pw_below_drewN HB.out _⟩⟩
        · rw [if_neg c2] at H
          cases H
      · rw [if_neg c1] at H
        obtain ⟨rfl, rfl⟩ : 0 = r1 ∧ false = r2 := by simpa using H
        have c1b0 : decide ((l0.length : Int) ≤ i) = true := decide_eq_true (by omega)
        clear H c1
        go_wp2
        simp only [Exit.jump]
        go_ret2
        exact ⟨rfl, HB.out⟩
  · intro hp
    go_wp2_with (go_at_call 19; refine (base_Match.calls k _ _ _ m _ HR0.out HC0.out HM.out).mono ?_; rintro e w1 ⟨v1, rfl, hO, hb1⟩; have HO := Aside0.mk hO; have n0_ := Aside0.mk hb1; clear HB hb1 hO; have HB := n0_; clear n0_)
    go_step3
    rename_i hK_
    exact hK_ _ _ (hp k _ _ ⟨_, _, _, _, _, _, _, _, _, _, _, _, _, _, _, _, _, _, _, _, _, _, _, _, _, _, _, _, _, _, _, _, rfl, HA, HO, HB⟩)
end


/-! ### parquetrylaw10_level: function 33 -/
def parquetrylaw10_level.f (k : Nat) (a0 : Int) (a1 : Bool) (l2 : List Int) : Option (Bool) := (base_Level.f k l2).bind fun bt150 => (if bt150.1 = a0 then (some (bt150.2 == a1)) else (some false))
theorem parquetrylaw10_level.mono : ∀ a0 a1 a2 k, LeO (parquetrylaw10_level.f k a0 a1 a2) (parquetrylaw10_level.f (k + 1) a0 a1 a2) := by
  intro a0 a1 a2 k
  unfold parquetrylaw10_level.f
  repeat' first
      | (with_reducible exact base_Level.mono _ _)
      | (with_reducible exact LeO.refl _)
      | (with_reducible exact LeO.none _)
      | (with_reducible refine LeO.ite ?_ ?_)
      | (with_reducible refine LeO.bind ?_ (fun _ => ?_))
      | exact base_Level.mono _ _
      | exact LeO.none _
      | refine LeO.ite ?_ ?_
      | refine LeO.bind ?_ (fun _ => ?_)
set_option maxHeartbeats 8000000 in
set_option maxRecDepth 100000 in
theorem parquetrylaw10_level.calls (k : Nat) (a0 : Int) (a1 : Bool) (A2 : Option Addr) (c2 : Nat) (l2 : List Int) (r : Bool) (w : World) (hr2 : Kd.C (Kd.int .i64) w A2 l2.length l2) (hc2 : l2.length ≤ c2) (h : parquetrylaw10_level.f k a0 a1 l2 = some r) :
    Calls Try.prog 33 #[.int .i64 a0, .bool a1, .slice A2 l2.length c2] w fun e w' => e = .returned (.bool r) ∧ Below w.heap.size w w' := by
  have HR2 := Aside0.mk hr2
  have HC2 := Aside0.mk hc2
  clear hr2 hc2
  have HB := Aside0.mk (Below.refl w.heap.size w)
  have H : ((base_Level.f k l2).bind fun bt150 => (if bt150.1 = a0 then (some (bt150.2 == a1)) else (some false))) = some r := h
  clear h
  replace H := Option.bind_eq_some_iff.mp H
  obtain ⟨⟨t150, t151⟩, A40, H⟩ := H
  replace H : (if t150 = a0 then (some (t151 == a1)) else (some false)) = some r := H
  have A4 := Aside0.mk A40
  clear A40
  by_cases c5 : t150 = a0
  · rw [if_pos c5] at H
    have c5b0 : (t150 == a0) = true := beq_iff_eq.mpr c5
    have c5b1 : (t150 != a0) = false := bne_eq_false_iff_eq.mpr c5
    clear c5
    obtain rfl := Option.some.inj H
    go_enter Try.func33, Try.ntmps33
    go_wp2_with (first | ((with_reducible refine gate_callee (f := 21) rfl ?_); refine goesL_ (some 11) rfl rfl Try.func21 (by kernel_rfl) rfl #[.slice A2 l2.length c2] rfl (by (try simp only [List.map_toArray, List.map_cons, List.map_nil]); first | done | rfl | (simp only [List.length_drop, List.length_take]; rfl)) ?_; (with_reducible refine (base_Level.calls k _ _ l2 t150 t151 _ ?side1 ?side2 A4.out).mono ?_); (case side1 => repeat (first | exact HR2.out | (with_reducible refine Kd.C_alloc ?_ _) | (with_reducible refine Kd.C_drewN ?_ _) | (with_reducible refine Kd.C_drew ?_))); (case side2 => exact HC2.out); rintro e w6 ⟨rfl, hb⟩; refine ⟨_, rfl, ?_⟩; have n0_ := Aside0.mk (below_step (by repeat (first | (with_reducible first | exact HB.out | apply below_alloc | apply pw_below_drewN | apply below_drew1) | exact HB.out)) hb); clear HB; have HB := n0_; clear n0_; (try clear hb); (try clear hb2); (try clear hk); (try clear hi)))
    go_ret
    exact ⟨by first | rfl | (simp [errW_none, errW_some] <;> rfl) | (simp [*, errW_none, errW_some] <;> rfl), by repeat (first | (with_reducible first | exact HB.out | apply below_alloc | apply pw_below_drewN | apply below_drew1) | exact HB.out)⟩
  · rw [if_neg c5] at H
    have c5b0 : (t150 == a0) = false := beq_eq_false_iff_ne.mpr c5
    have c5b1 : (t150 != a0) = true := bne_iff_ne.mpr c5
    obtain rfl := Option.some.inj H
    go_enter Try.func33, Try.ntmps33
    go_wp2_with (first | ((with_reducible refine gate_callee (f := 21) rfl ?_); refine goesL_ (some 11) rfl rfl Try.func21 (by kernel_rfl) rfl #[.slice A2 l2.length c2] rfl (by (try simp only [List.map_toArray, List.map_cons, List.map_nil]); first | done | rfl | (simp only [List.length_drop, List.length_take]; rfl)) ?_; (with_reducible refine (base_Level.calls k _ _ l2 t150 t151 _ ?side1 ?side2 A4.out).mono ?_); (case side1 => repeat (first | exact HR2.out | (with_reducible refine Kd.C_alloc ?_ _) | (with_reducible refine Kd.C_drewN ?_ _) | (with_reducible refine Kd.C_drew ?_))); (case side2 => exact HC2.out); rintro e w7 ⟨rfl, hb⟩; refine ⟨_, rfl, ?_⟩; have n0_ := Aside0.mk (below_step (by repeat (first | (with_reducible first | exact HB.out | apply below_alloc | apply pw_below_drewN | apply below_drew1) | exact HB.out)) hb); clear HB; have HB := n0_; clear n0_; (try clear hb); (try clear hb2); (try clear hk); (try clear hi)))
    go_ret
    exact ⟨by first | rfl | (simp [errW_none, errW_some] <;> rfl) | (simp [*, errW_none, errW_some] <;> rfl), by repeat (first | (with_reducible first | exact HB.out | apply below_alloc | apply pw_below_drewN | apply below_drew1) | exact HB.out)⟩

end Go.Proofs.Ytekllnpmioinfaa.PC10
