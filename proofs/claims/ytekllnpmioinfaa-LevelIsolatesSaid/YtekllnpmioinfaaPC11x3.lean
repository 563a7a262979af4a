/- For the laws of the group C11: the Lean functions that the Go functions compute, and proofs that they do. Written by wip/hprint.py of this repo over the kit's printer; nothing here is trusted: Lean checks it. -/
import Derived.Test.YtekllnpmioinfaaPC11x0
import Derived.Test.YtekllnpmioinfaaPC11x1
import Derived.Test.YtekllnpmioinfaaPC11x2
namespace Go.Proofs.Ytekllnpmioinfaa.PC11
open Go.RowKit Go.Proofs.YtekllnpmioinfaaW.PrintWords Go.Proofs.YtekllnpmioinfaaW.PrintLast Go.Proofs.YtekllnpmioinfaaW.PrintMore
attribute [local go_sem] max2_int min2_int max_two min_two max_three min_three max_four min_four   -- for this text's walks alone
set_option linter.unusedVariables false
set_option linter.unusedSimpArgs false

/-! ### base_Level: function 21: by hand -/
def base_Level.l0 : Nat → List Int → List Int → Int → Option (Int × Bool)
  | 0, _, _, _ => none
  | k + 1, x0, m, i => if i < (x0.length : Int) then (if 0 ≤ i then (if rd x0 i = 0 then some (0, true) else if rd x0 i = 1 then some (1, true) else if rd x0 i = 2 then some (1, true) else (base_opens.f (rd x0 i)).bind fun t => if t = true then (if i < (m.length : Int) then base_Level.l0 k x0 m (wrap64 (rd m i + 1)) else none) else base_Level.l0 k x0 m (wrap64 (i + 1))) else none) else some (0, false)
def base_Level.f (k : Nat) (l0 : List Int) : Option (Int × Bool) := (base_Match.f k l0).bind fun m => base_Level.l0 k l0 m 0
theorem base_Level.mono_l : ∀ k, ∀ y0 y1 y2, LeO (base_Level.l0 k y0 y1 y2) (base_Level.l0 (k + 1) y0 y1 y2) := by
  intro k
  induction k with
  | zero => intro y0 y1 y2 r h; simp [base_Level.l0] at h
  | succ k ih =>
    intro y0 y1 y2
    conv => lhs; simp only [base_Level.l0]
    conv => rhs; rw [base_Level.l0]
    repeat (first | exact LeO.refl _ | exact ih _ _ _ | refine LeO.ite ?_ ?_ | refine LeO.bind (LeO.refl _) (fun x => ?_))
theorem base_Level.mono : ∀ a0 k, LeO (base_Level.f k a0) (base_Level.f (k + 1) a0) := by
  intro a0 k
  unfold base_Level.f
  exact LeO.bind (base_Match.mono _ _) (fun x => base_Level.mono_l k _ _ _)
section
open Go.Proofs.YtekllnpmioinfaaH
set_option maxHeartbeats 8000000 in
set_option maxRecDepth 100000 in
theorem base_Level.calls (k : Nat) (A0 : Option Addr) (c0 : Nat) (l0 : List Int) (r1 : Int) (r2 : Bool) (w : World) (hr0 : Kd.C (Kd.int .i64) w A0 l0.length l0) (hc0 : l0.length ≤ c0) (h : base_Level.f k l0 = some (r1, r2)) :
    Calls Try.prog 21 #[.slice A0 l0.length c0] w fun e w' => e = .returned (.tuple #[.int .i64 r1, .bool r2]) ∧ Below w.heap.size w w' := by
  have HR0 := Aside0.mk hr0
  have HC0 := Aside0.mk hc0
  clear hr0 hc0
  obtain ⟨m, hm, hl⟩ := Option.bind_eq_some_iff.1 h
  have HM := Aside0.mk hm
  have HA := Aside0.mk hl
  clear hm hl h
  have HB := Aside0.mk (Below.refl w.heap.size w)
  go_enter Try.func21, Try.ntmps21
  go_wp2
  refine scope_from 0 (fun kq a' w' => ∃ (v4 : Value) (i : Int) (u6 u7 u8 u9 u10 u11 u12 u13 u14 u15 u16 u17 u18 u19 u20 u21 u22 u23 u24 u25 u26 u27 u28 u29 u30 u31 u32 u33 u34 u35 : Value), a' = { tmps := #[.slice A0 l0.length c0, undef, .int .i64 0, .bool false, v4, .int .i64 i, u6, u7, u8, u9, u10, u11, u12, u13, u14, u15, u16, u17, u18, u19, u20, u21, u22, u23, u24, u25, u26, u27, u28, u29, u30, u31, u32, u33, u34, u35], defers := [] } ∧ Aside0 (base_Level.l0 kq l0 m i = some (r1, r2)) ∧ Aside0 (Kd.R (Kd.int .i64) 3 w' w.heap.size (fun _ => True) v4 m) ∧ Aside0 (Below w.heap.size w w')) rfl ?_ ?_
  · clear HA HB
    rintro kq a' wr ⟨v4, i, u6, u7, u8, u9, u10, u11, u12, u13, u14, u15, u16, u17, u18, u19, u20, u21, u22, u23, u24, u25, u26, u27, u28, u29, u30, u31, u32, u33, u34, u35, rfl, HA, HO, HB⟩
    cases kq with
    | zero => exact absurd HA.out (by simp [base_Level.l0])
    | succ k1 =>
      have H := HA.out
      clear HA
      simp only [base_Level.l0] at H
      by_cases c1 : i < (l0.length : Int)
      · rw [if_pos c1] at H
        by_cases c2 : 0 ≤ i
        · rw [if_pos c2] at H
          obtain ⟨ad, e1, hx⟩ := Kd.at_int HR0.out i c2 c1
          cases e1
          replace hx := (HB.out.cell (World.block_lt_of_cell? w _ hx)).trans hx
          have c1b0 : decide ((l0.length : Int) ≤ i) = false := decide_eq_false (by omega)
          have c1b1 : decide (i < (l0.length : Int)) = true := decide_eq_true c1
          have c2b0 : decide (0 ≤ i) = true := decide_eq_true c2
          have HC := Aside0.mk (And.intro c1 c2)
          have c1b2 := eq_true c1
          have c2b1 := eq_true c2
          clear c1 c2
          generalize rd l0 i = c at *
          by_cases d0 : c = 0
          · rw [if_pos d0] at H
            obtain ⟨rfl, rfl⟩ : 0 = r1 ∧ true = r2 := by simpa using H
            clear H
            subst d0
            go_wp2
            simp only [Exit.jump]
            go_ret2
            exact ⟨rfl, HB.out⟩
          · rw [if_neg d0] at H
            have d0b : (c == 0) = false := beq_eq_false_iff_ne.2 d0
            clear d0
            by_cases d1 : c = 1
            · rw [if_pos d1] at H
              obtain ⟨rfl, rfl⟩ : 1 = r1 ∧ true = r2 := by simpa using H
              clear H d0b
              subst d1
              go_wp2
              simp only [Exit.jump]
              go_ret2
              exact ⟨rfl, HB.out⟩
            · rw [if_neg d1] at H
              have d1b : (c == 1) = false := beq_eq_false_iff_ne.2 d1
              clear d1
              by_cases d2 : c = 2
              · rw [if_pos d2] at H
                obtain ⟨rfl, rfl⟩ : 1 = r1 ∧ true = r2 := by simpa using H
                clear H d0b d1b
                subst d2
                go_wp2
                simp only [Exit.jump]
                go_ret2
                exact ⟨rfl, HB.out⟩
              · rw [if_neg d2] at H
                have d2b : (c == 2) = false := beq_eq_false_iff_ne.2 d2
                clear d2
                obtain ⟨t, ht, H⟩ := Option.bind_eq_some_iff.1 H
                have HT := Aside0.mk ht
                clear ht
                cases t with
                | true =>
                  rw [if_pos rfl] at H
                  by_cases d3 : i < (m.length : Int)
                  · rw [if_pos d3] at H
                    have H' := Aside0.mk H
                    clear H
                    obtain ⟨g4, c4, rfl, hgb, hgl, hty⟩ := Kd.R_form HO.out (by have := HC.out.2; omega)
                    clear hgb hgl hty
                    obtain ⟨hx4, hf4⟩ := Kd.R_celln 0 HO.out i HC.out.2 d3
                    clear hf4
                    replace hx4 : wr.cell? ⟨g4, i.toNat, none⟩ = some (.int .i64 (rd m i)) := hx4
                    generalize rd m i = mi at *
                    have d3b : decide (i < (m.length : Int)) = true := decide_eq_true d3
                    have d3c := eq_true d3
                    clear d3
                    go_wp2_with (go_at_call 36; (with_reducible refine (base_opens.calls c true _ HT.out).mono ?_); rintro e w' ⟨rfl, ⟨nd, rfl⟩⟩)
                    go_step3
                    exact ⟨rfl, k1, Nat.lt_succ_self _, _, _, _, _, _, _, _, _, _, _, _, _, _, _, _, _, _, _, _, _, _, _, _, _, _, _, _, _, _, _, _, _, rfl, H', ⟨Kd.R_drewN HO.out _⟩, ⟨pw_below_drewN HB.out _⟩⟩
                  · rw [if_neg d3] at H
                    cases H
                | false =>
                  rw [if_neg (by decide)] at H
                  have H' := Aside0.mk H
                  clear H
                  go_wp2_with (go_at_call 36; (with_reducible refine (base_opens.calls c false _ HT.out).mono ?_); rintro e w' ⟨rfl, ⟨nd, rfl⟩⟩)
                  go_step3
                  exact ⟨rfl, k1, Nat.lt_succ_self _, _, _, _, _, _, _, _, _, _, _, _, _, _, _, _, _, _, _, _, _, _, _, _, _, _, _, _, _, _, _, _, _, rfl, H', ⟨Kd.R_drewN HO.out _⟩, ⟨pw_below_drewN HB.out _⟩⟩
        · rw [if_neg c2] at H
          cases H
      · rw [if_neg c1] at H
        obtain ⟨rfl, rfl⟩ : 0 = r1 ∧ false = r2 := by simpa using H
        have c1b0 : decide ((l0.length : Int) ≤ i) = true := decide_eq_true (by omega)
        clear H c1
        go_wp2
        simp only [Exit.jump]
        go_ret2
        exact ⟨rfl, HB.out⟩
  · intro hp
    go_wp2_with (go_at_call 19; refine (base_Match.calls k _ _ _ m _ HR0.out HC0.out HM.out).mono ?_; rintro e w1 ⟨v1, rfl, hO, hb1⟩; have HO := Aside0.mk hO; have n0_ := Aside0.mk hb1; clear HB hb1 hO; have HB := n0_; clear n0_)
    go_step3
    rename_i hK_
    exact hK_ _ _ (hp k _ _ ⟨_, _, _, _, _, _, _, _, _, _, _, _, _, _, _, _, _, _, _, _, _, _, _, _, _, _, _, _, _, _, _, _, rfl, HA, HO, HB⟩)
end


-- NOT PRINTED: function 40 (level_walk_last)

-- NOT PRINTED: function 60 (level_walk_next)

-- NOT PRINTED: function 53 (level_walk_push)

-- NOT PRINTED: function 41 (level_walk_embed)

-- NOT PRINTED: function 54 (level_walk_pop)

-- NOT PRINTED: function 42 (level_walk_ends)

-- NOT PRINTED: function 43 (level_walk_closes)

-- NOT PRINTED: function 44 (level_walk_seen)

-- NOT PRINTED: function 45 (level_walk_isolate)

end Go.Proofs.Ytekllnpmioinfaa.PC11
