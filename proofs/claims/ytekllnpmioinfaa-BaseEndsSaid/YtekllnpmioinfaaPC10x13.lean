/- For the laws of the group C10: the Lean functions that the Go functions compute, and proofs that they do. Written by wip/hprint.py of this repo over the kit's printer; nothing here is trusted: Lean checks it. -/
import Derived.Test.YtekllnpmioinfaaPC10x0
import Derived.Test.YtekllnpmioinfaaPC10x12
namespace Go.Proofs.Ytekllnpmioinfaa.PC10
open Go.RowKit Go.Proofs.YtekllnpmioinfaaW.PrintWords Go.Proofs.YtekllnpmioinfaaW.PrintLast Go.Proofs.YtekllnpmioinfaaW.PrintMore
attribute [local go_sem] max2_int min2_int max_two min_two max_three min_three max_four min_four   -- for this text's walks alone
set_option linter.unusedVariables false
set_option linter.unusedSimpArgs false

/-! ### parquetryref02_Of: function 35 -/
mutual
def parquetryref02_Of.l0 : Nat → Int → List (S74) → Int → Option (Int)
  | 0, _, _, _ => none
  | k + 1, x0, x3, x4 => if x4 < (x3.length : Int) then (if 0 ≤ x4 then (parquetryref02_Of.l1 k x0 x3 x4 ((rd_T74 x3 x4).f1) 0) else (none)) else (some 0)
def parquetryref02_Of.l1 : Nat → Int → List (S74) → Int → List Int → Int → Option (Int)
  | 0, _, _, _, _, _ => none
  | k + 1, x0, x3, x4, x5, x6 => if (wrap64 (x6 + 1)) < (x5.length : Int) then (if 0 ≤ x6 then (if x6 < (x5.length : Int) then (if (rd x5 x6) ≤ x0 then (if 0 ≤ (wrap64 (x6 + 1)) then (if x0 ≤ (rd x5 (wrap64 (x6 + 1))) then (if 0 ≤ x4 then (if x4 < (x3.length : Int) then (some ((rd_T74 x3 x4).f0)) else (none)) else (none)) else (parquetryref02_Of.l1 k x0 x3 x4 x5 (wrap64 (x6 + 2)))) else (none)) else (parquetryref02_Of.l1 k x0 x3 x4 x5 (wrap64 (x6 + 2)))) else (none)) else (none)) else (parquetryref02_Of.l0 k x0 x3 (wrap64 (x4 + 1)))
end
def parquetryref02_Of.f (k : Nat) (a0 : Int) : Option (Int) := (parquetryref02_Table.f).bind fun t323 => (parquetryref02_Of.l0 k a0 t323 0)
theorem parquetryref02_Of.mono_l : ∀ k, (∀ y0 y1 y2, LeO (parquetryref02_Of.l0 k y0 y1 y2) (parquetryref02_Of.l0 (k + 1) y0 y1 y2)) ∧ (∀ y0 y1 y2 y3 y4, LeO (parquetryref02_Of.l1 k y0 y1 y2 y3 y4) (parquetryref02_Of.l1 (k + 1) y0 y1 y2 y3 y4))
  | 0 => ⟨fun _ _ _ r h => by simp [parquetryref02_Of.l0] at h, fun _ _ _ _ _ r h => by simp [parquetryref02_Of.l1] at h⟩
  | k + 1 => by
    obtain ⟨ih0, ih1⟩ := parquetryref02_Of.mono_l k
    refine ⟨?_, ?_⟩
    · intro y0 y1 y2
      unfold parquetryref02_Of.l0
      repeat' first
      | (with_reducible exact ih0 _ _ _)
      | (with_reducible exact ih1 _ _ _ _ _)
      | (with_reducible exact LeO.refl _)
      | (with_reducible exact LeO.none _)
      | (with_reducible refine LeO.ite ?_ ?_)
      | (with_reducible refine LeO.bind ?_ (fun _ => ?_))
      | exact ih0 _ _ _
      | exact ih1 _ _ _ _ _
      | exact LeO.none _
      | refine LeO.ite ?_ ?_
      | refine LeO.bind ?_ (fun _ => ?_)
    · intro y0 y1 y2 y3 y4
      unfold parquetryref02_Of.l1
      repeat' first
      | (with_reducible exact ih0 _ _ _)
      | (with_reducible exact ih1 _ _ _ _ _)
      | (with_reducible exact LeO.refl _)
      | (with_reducible exact LeO.none _)
      | (with_reducible refine LeO.ite ?_ ?_)
      | (with_reducible refine LeO.bind ?_ (fun _ => ?_))
      | exact ih0 _ _ _
      | exact ih1 _ _ _ _ _
      | exact LeO.none _
      | refine LeO.ite ?_ ?_
      | refine LeO.bind ?_ (fun _ => ?_)
theorem parquetryref02_Of.mono : ∀ a0 k, LeO (parquetryref02_Of.f k a0) (parquetryref02_Of.f (k + 1) a0) := by
  intro a0 k
  obtain ⟨ih0, ih1⟩ := parquetryref02_Of.mono_l k
  unfold parquetryref02_Of.f
  repeat' first
      | (with_reducible exact ih0 _ _ _)
      | (with_reducible exact ih1 _ _ _ _ _)
      | (with_reducible exact LeO.refl _)
      | (with_reducible exact LeO.none _)
      | (with_reducible refine LeO.ite ?_ ?_)
      | (with_reducible refine LeO.bind ?_ (fun _ => ?_))
      | exact ih0 _ _ _
      | exact ih1 _ _ _ _ _
      | exact LeO.none _
      | refine LeO.ite ?_ ?_
      | refine LeO.bind ?_ (fun _ => ?_)
set_option maxHeartbeats 8000000 in
set_option maxRecDepth 100000 in
theorem parquetryref02_Of.calls (k : Nat) (a0 : Int) (r : Int) (w : World) (h : parquetryref02_Of.f k a0 = some r) :
    Calls Try.prog 35 #[.int .i64 a0] w fun e w' => e = .returned (.int .i64 r) ∧ Below w.heap.size w w' := by
  have HB := Aside0.mk (Below.refl w.heap.size w)
  have H : ((parquetryref02_Table.f).bind fun t323 => (parquetryref02_Of.l0 k a0 t323 0)) = some r := h
  clear h
  replace H := Option.bind_eq_some_iff.mp H
  obtain ⟨t323, A20, H⟩ := H
  replace H : (parquetryref02_Of.l0 k a0 t323 0) = some r := H
  have A2 := Aside0.mk A20
  clear A20
  have H' := Aside0.mk H
  clear H
  go_enter Try.func35, Try.ntmps35
  go_wp2_with (first | ((with_reducible refine gate_callee (f := 52) rfl ?_); refine goesL_ (some 7) rfl rfl Try.func52 (by kernel_rfl) rfl #[] rfl (by (try simp only [List.map_toArray, List.map_cons, List.map_nil]); first | done | rfl | (simp only [List.length_drop, List.length_take]; rfl)) ?_; (with_reducible refine (parquetryref02_Table.calls  t323 _ A2.out).mono ?_); rintro e w3 ⟨v324, rfl, ho0, hb⟩; refine ⟨_, rfl, ?_⟩; have n0_ := Aside0.mk (Kd.N_lower (Kd.N_mono (ok' := fun k_ => True) ho0 (fun k_ hk_ => trivial)) (below_size (by repeat (first | (with_reducible first | exact HB.out | apply below_alloc | apply pw_below_drewN | apply below_drew1) | exact HB.out)))); have n1_ := Aside0.mk (below_step (by repeat (first | (with_reducible first | exact HB.out | apply below_alloc | apply pw_below_drewN | apply below_drew1) | exact HB.out)) hb); clear HB; have HO325 := n0_; have HB := n1_; clear n0_ n1_; (try clear hb); (try clear hb2); (try clear hk); (try clear hi); (try clear ho0)))
  go_loopg [4] k (fun kq v4 w' => ∃ (x4_1 : Int), v4 = .int .i64 x4_1 ∧ Aside0 (parquetryref02_Of.l0 kq a0 t323 x4_1 = some r) ∧ Aside0 (kq ≤ k) ∧ Aside0 (Kd.N k74 74 w' w.heap.size (fun _ => True) v324 t323) ∧ Aside0 (Below w.heap.size w w'))
  case atStart => exact ⟨(0), (by first | rfl | (simp; done) | (simp [*]; done)), H', ⟨Nat.le_refl _⟩, ⟨by (with_reducible repeat (first | apply Kd.N_alloc | apply Kd.N_drewN | apply Kd.N_drew)); exact HO325.out⟩, ⟨by repeat (first | (with_reducible first | exact HB.out | apply below_alloc | apply pw_below_drewN | apply below_drew1) | exact HB.out)⟩⟩
  case round =>
    clear H'
    try clear p2
    try clear c3
    obtain ⟨x4_1, rfl, HA, HK1, HO_3, HB⟩ := hrel
    cases gk with
    | zero => exact absurd HA.out (by simp [parquetryref02_Of.l0])
    | succ k1 =>
      have H := HA.out
      clear HA
      simp only [parquetryref02_Of.l0] at H
      by_cases c4 : x4_1 < (t323.length : Int)
      · rw [if_pos c4] at H
        have c4b0 : decide (x4_1 < (t323.length : Int)) = true := decide_eq_true c4
        clear c4
        by_cases c5 : 0 ≤ x4_1
        · rw [if_pos c5] at H
          have c5b0 : decide (0 ≤ x4_1) = true := decide_eq_true c5
          clear c5
          have H' := Aside0.mk H
          clear H
          obtain ⟨Ao6, co6, eo6⟩ := Kd.N_slice HO_3.out
          subst eo6
          have p326 : 0 ≤ (x4_1 : Int) := of_decide_eq_true (by first | (with_reducible assumption) | assumption)
          have q326 : x4_1 < (t323.length : Int) := of_decide_eq_true (by first | (with_reducible assumption) | assumption)
          obtain ⟨ad326, A326_1, c326_1, e326, hx326_0, hx326_1, hl326_1, hi326_1⟩ := at_T74 (Kd.N_reads' HO_3.out).2.2 x4_1 p326 q326
          cases e326
          obtain ⟨ce326, hce326, hMe326, hcc326⟩ := Kd.N_get HO_3.out z74 x4_1 p326 (by first | exact q326 | exact of_decide_eq_true (by first | (with_reducible assumption) | assumption) | (have e_ := (Kd.N_reads' HO_3.out).1; omega))
          obtain ⟨ua326_1, uc326_1, rfl, ul326_1, ge326_1⟩ := k74_openF hMe326
          have hv326_1 := hcc326 1 _ rfl
          rw [add_field _ _ 1 (by omega)] at hv326_1
          replace hv326_1 := Option.some.inj (hv326_1.symm.trans hx326_1)
          injection hv326_1 with hva_ hvn_ hvc_
          rw [hva_] at ge326_1
          rw [hvc_] at ul326_1
          have HL326_1 := Aside0.mk (show Kd.V (Kd.int .i64) 3 _ w.heap.size _ _ ((rd_T74 t323 x4_1).f1) from Kd.V_mk ul326_1 ge326_1)
          clear hva_ hvn_ hvc_ ge326_1 ul326_1
          clear hcc326 hce326
          have HR326_1 := Aside0.mk hi326_1
          have HC326_1 := Aside0.mk hl326_1
          clear hi326_1 hl326_1
          replace p326 := eq_true p326
          replace q326 := eq_true q326
          go_wp2
          go_loopg [6] k1 (fun kq v6 w' => ∃ (x6_2 : Int), v6 = .int .i64 x6_2 ∧ Aside0 (parquetryref02_Of.l1 kq a0 t323 x4_1 ((rd_T74 t323 x4_1).f1) x6_2 = some r) ∧ Aside0 (kq ≤ k1) ∧ Aside0 (Kd.N k74 74 w' w.heap.size (fun _ => True) (.slice (some ad326) t323.length co6) t323) ∧ Aside0 (Kd.C (Kd.int .i64) w' A326_1 ((rd_T74 t323 x4_1).f1).length ((rd_T74 t323 x4_1).f1)) ∧ Aside0 (Below w.heap.size w w'))
          case atStart => exact ⟨(0), (by first | rfl | (simp; done) | (simp [*]; done)), H', ⟨Nat.le_refl _⟩, ⟨by (with_reducible repeat (first | apply Kd.N_alloc | apply Kd.N_drewN | apply Kd.N_drew)); exact HO_3.out⟩, ⟨by repeat (first | (with_reducible exact HR326_1.out) | (with_reducible refine Kd.C_alloc ?_ _) | (with_reducible refine Kd.C_drewN ?_ _) | (with_reducible refine Kd.C_drew ?_) | exact HR326_1.out)⟩, ⟨by repeat (first | (with_reducible first | exact HB.out | apply below_alloc | apply pw_below_drewN | apply below_drew1) | exact HB.out)⟩⟩
          case round =>
            clear H'
            try clear p2
            try clear c3
            try clear p3
            try clear q3
            try clear hx3
            try clear c4
            try clear c4b0
            try clear c5
            try clear c5b0
            try clear hx326_0
            try clear hx326_1
            try clear p2
            try clear p326
            try clear q326
            obtain ⟨x6_2, rfl, HA, HK2, HO_3, HR326_1, HB⟩ := hrel
            cases gk with
            | zero => exact absurd HA.out (by simp [parquetryref02_Of.l1])
            | succ k2 =>
              have H := HA.out
              clear HA
              simp only [parquetryref02_Of.l1] at H
              by_cases c7 : (wrap64 (x6_2 + 1)) < (((rd_T74 t323 x4_1).f1).length : Int)
              · rw [if_pos c7] at H
                have c7b0 : decide ((wrap64 (x6_2 + 1)) < (((rd_T74 t323 x4_1).f1).length : Int)) = true := decide_eq_true c7
                clear c7
                by_cases c8 : 0 ≤ x6_2
                · rw [if_pos c8] at H
                  have c8b0 : decide (0 ≤ x6_2) = true := decide_eq_true c8
                  clear c8
                  by_cases c9 : x6_2 < (((rd_T74 t323 x4_1).f1).length : Int)
                  · rw [if_pos c9] at H
                    have c9b0 : decide (x6_2 < (((rd_T74 t323 x4_1).f1).length : Int)) = true := decide_eq_true c9
                    clear c9
                    by_cases c10 : (rd ((rd_T74 t323 x4_1).f1) x6_2) ≤ a0
                    · rw [if_pos c10] at H
                      have c10b0 : decide ((rd ((rd_T74 t323 x4_1).f1) x6_2) ≤ a0) = true := decide_eq_true c10
                      clear c10
                      obtain ⟨ji11, hji11⟩ : ∃ j_ : Int, (wrap64 (x6_2 + 1)) = j_ := ⟨_, rfl⟩
                      replace H : (if 0 ≤ (ji11) then (if a0 ≤ (rd ((rd_T74 t323 x4_1).f1) (ji11)) then (if 0 ≤ x4_1 then (if x4_1 < (t323.length : Int) then (some ((rd_T74 t323 x4_1).f0)) else (none)) else (none)) else (parquetryref02_Of.l1 k2 a0 t323 x4_1 ((rd_T74 t323 x4_1).f1) (wrap64 (x6_2 + 2)))) else (none)) = some r := by first | (rw [hji11] at H; exact H) | (simp only [hji11] at H ⊢; exact H)
                      (try rw [hji11] at c7b0)
                      have hji11w : (IntKind.i64.wrap (x6_2 + 1)) = ji11 := (i64_w _).trans hji11
                      by_cases c12 : 0 ≤ (ji11)
                      · rw [if_pos c12] at H
                        have c12b0 : decide (0 ≤ (ji11)) = true := decide_eq_true c12
                        clear c12
                        by_cases c13 : a0 ≤ (rd ((rd_T74 t323 x4_1).f1) (ji11))
                        · rw [if_pos c13] at H
                          have c13b0 : decide (a0 ≤ (rd ((rd_T74 t323 x4_1).f1) (ji11))) = true := decide_eq_true c13
                          clear c13
                          by_cases c14 : 0 ≤ x4_1
                          · rw [if_pos c14] at H
                            have c14b0 : decide (0 ≤ x4_1) = true := decide_eq_true c14
                            clear c14
                            by_cases c15 : x4_1 < (t323.length : Int)
                            · rw [if_pos c15] at H
                              have c15b0 : decide (x4_1 < (t323.length : Int)) = true := decide_eq_true c15
                              clear c15
                              obtain rfl := Option.some.inj H
                              have p327 : 0 ≤ (x6_2 : Int) := of_decide_eq_true (by first | (with_reducible assumption) | assumption)
                              have q327 : x6_2 < (((rd_T74 t323 x4_1).f1).length : Int) := of_decide_eq_true (by first | (with_reducible assumption) | assumption)
                              obtain ⟨ad327, e327, hx327_0⟩ := Kd.at_int HR326_1.out x6_2 p327 q327
                              cases e327
                              try replace hx327_0 := (HB.out.cell (World.block_lt_of_cell? w _ hx327_0)).trans hx327_0
                              replace p327 := eq_true p327
                              replace q327 := eq_true q327
                              have p328 : 0 ≤ ((ji11) : Int) := of_decide_eq_true (by first | (with_reducible assumption) | assumption)
                              have q328 : (ji11) < (((rd_T74 t323 x4_1).f1).length : Int) := of_decide_eq_true (by first | (with_reducible assumption) | assumption)
                              obtain ⟨ad328, e328, hx328_0⟩ := Kd.at_int HR326_1.out (ji11) p328 q328
                              obtain rfl : ad327 = ad328 := (by injection e328)
                              try replace hx328_0 := (HB.out.cell (World.block_lt_of_cell? w _ hx328_0)).trans hx328_0
                              replace p328 := eq_true p328
                              replace q328 := eq_true q328
                              have p329 : 0 ≤ (x4_1 : Int) := of_decide_eq_true (by first | (with_reducible assumption) | assumption)
                              have q329 : x4_1 < (t323.length : Int) := of_decide_eq_true (by first | (with_reducible assumption) | assumption)
                              obtain ⟨ad329, A329_1, c329_1, e329, hx329_0, hx329_1, hl329_1, hi329_1⟩ := at_T74 (Kd.N_reads' HO_3.out).2.2 x4_1 p329 q329
                              obtain rfl : ad326 = ad329 := (by injection e329)
                              obtain ⟨ce329, hce329, hMe329, hcc329⟩ := Kd.N_get HO_3.out z74 x4_1 p329 (by first | exact q329 | exact of_decide_eq_true (by first | (with_reducible assumption) | assumption) | (have e_ := (Kd.N_reads' HO_3.out).1; omega))
                              obtain ⟨ua329_1, uc329_1, rfl, ul329_1, ge329_1⟩ := k74_openF hMe329
                              have hv329_1 := hcc329 1 _ rfl
                              rw [add_field _ _ 1 (by omega)] at hv329_1
                              replace hv329_1 := Option.some.inj (hv329_1.symm.trans hx329_1)
                              injection hv329_1 with hva_ hvn_ hvc_
                              rw [hva_] at ge329_1
                              rw [hvc_] at ul329_1
                              have HL329_1 := Aside0.mk (show Kd.V (Kd.int .i64) 3 _ w.heap.size _ _ ((rd_T74 t323 x4_1).f1) from Kd.V_mk ul329_1 ge329_1)
                              clear hva_ hvn_ hvc_ ge329_1 ul329_1
                              clear hcc329 hce329
                              have HR329_1 := Aside0.mk hi329_1
                              have HC329_1 := Aside0.mk hl329_1
                              clear hi329_1 hl329_1
                              replace p329 := eq_true p329
                              replace q329 := eq_true q329
                              go_wp2
                              go_ret
                              exact ⟨by first | rfl | (simp [errW_none, errW_some] <;> rfl) | (simp only [← hji11]; first | rfl | (simp [errW_none, errW_some] <;> rfl)) | (simp [*, errW_none, errW_some] <;> rfl), by repeat (first | (with_reducible first | exact HB.out | apply below_alloc | apply pw_below_drewN | apply below_drew1) | exact HB.out)⟩
                            · rw [if_neg c15] at H
                              exact absurd H (by simp)
                          · rw [if_neg c14] at H
                            exact absurd H (by simp)
                        · rw [if_neg c13] at H
                          have c13b0 : decide (a0 ≤ (rd ((rd_T74 t323 x4_1).f1) (ji11))) = false := decide_eq_false c13
                          clear c13
                          have H' := Aside0.mk H
                          clear H
                          have p327 : 0 ≤ (x6_2 : Int) := of_decide_eq_true (by first | (with_reducible assumption) | assumption)
                          have q327 : x6_2 < (((rd_T74 t323 x4_1).f1).length : Int) := of_decide_eq_true (by first | (with_reducible assumption) | assumption)
                          obtain ⟨ad327, e327, hx327_0⟩ := Kd.at_int HR326_1.out x6_2 p327 q327
                          cases e327
                          try replace hx327_0 := (HB.out.cell (World.block_lt_of_cell? w _ hx327_0)).trans hx327_0
                          replace p327 := eq_true p327
                          replace q327 := eq_true q327
                          have p328 : 0 ≤ ((ji11) : Int) := of_decide_eq_true (by first | (with_reducible assumption) | assumption)
                          have q328 : (ji11) < (((rd_T74 t323 x4_1).f1).length : Int) := of_decide_eq_true (by first | (with_reducible assumption) | assumption)
                          obtain ⟨ad328, e328, hx328_0⟩ := Kd.at_int HR326_1.out (ji11) p328 q328
                          obtain rfl : ad327 = ad328 := (by injection e328)
                          try replace hx328_0 := (HB.out.cell (World.block_lt_of_cell? w _ hx328_0)).trans hx328_0
                          replace p328 := eq_true p328
                          replace q328 := eq_true q328
                          go_wp2
                          go_roundg k2
                          case measure => have := HK1.out; have := HK2.out; omega
                          case rel => exact ⟨(wrap64 (x6_2 + 2)), (by first | rfl | (simp; done) | (simp [*]; done)), H', ⟨by have := HK1.out; have := HK2.out; omega⟩, ⟨by (with_reducible repeat (first | apply Kd.N_alloc | apply Kd.N_drewN | apply Kd.N_drew)); exact HO_3.out⟩, ⟨by repeat (first | (with_reducible exact HR326_1.out) | (with_reducible refine Kd.C_alloc ?_ _) | (with_reducible refine Kd.C_drewN ?_ _) | (with_reducible refine Kd.C_drew ?_) | exact HR326_1.out)⟩, ⟨by repeat (first | (with_reducible first | exact HB.out | apply below_alloc | apply pw_below_drewN | apply below_drew1) | exact HB.out)⟩⟩
                      · rw [if_neg c12] at H
                        exact absurd H (by simp)
                    · rw [if_neg c10] at H
                      have c10b0 : decide ((rd ((rd_T74 t323 x4_1).f1) x6_2) ≤ a0) = false := decide_eq_false c10
                      clear c10
                      have H' := Aside0.mk H
                      clear H
                      have p327 : 0 ≤ (x6_2 : Int) := of_decide_eq_true (by first | (with_reducible assumption) | assumption)
                      have q327 : x6_2 < (((rd_T74 t323 x4_1).f1).length : Int) := of_decide_eq_true (by first | (with_reducible assumption) | assumption)
                      obtain ⟨ad327, e327, hx327_0⟩ := Kd.at_int HR326_1.out x6_2 p327 q327
                      cases e327
                      try replace hx327_0 := (HB.out.cell (World.block_lt_of_cell? w _ hx327_0)).trans hx327_0
                      replace p327 := eq_true p327
                      replace q327 := eq_true q327
                      go_wp2
                      go_roundg k2
                      case measure => have := HK1.out; have := HK2.out; omega
                      case rel => exact ⟨(wrap64 (x6_2 + 2)), (by first | rfl | (simp; done) | (simp [*]; done)), H', ⟨by have := HK1.out; have := HK2.out; omega⟩, ⟨by (with_reducible repeat (first | apply Kd.N_alloc | apply Kd.N_drewN | apply Kd.N_drew)); exact HO_3.out⟩, ⟨by repeat (first | (with_reducible exact HR326_1.out) | (with_reducible refine Kd.C_alloc ?_ _) | (with_reducible refine Kd.C_drewN ?_ _) | (with_reducible refine Kd.C_drew ?_) | exact HR326_1.out)⟩, ⟨by repeat (first | (with_reducible first | exact HB.out | apply below_alloc | apply pw_below_drewN | apply below_drew1) | exact HB.out)⟩⟩
                  · rw [if_neg c9] at H
                    exact absurd H (by simp)
                · rw [if_neg c8] at H
                  exact absurd H (by simp)
              · rw [if_neg c7] at H
                have c7b0 : decide ((wrap64 (x6_2 + 1)) < (((rd_T74 t323 x4_1).f1).length : Int)) = false := decide_eq_false c7
                clear c7
                have H' := Aside0.mk H
                clear H
                go_wp2
                go_roundg k2
                case measure => have := HK1.out; have := HK2.out; omega
                case rel => exact ⟨(wrap64 (x4_1 + 1)), (by first | rfl | (simp; done) | (simp [*]; done)), H', ⟨by have := HK1.out; have := HK2.out; omega⟩, ⟨by (with_reducible repeat (first | apply Kd.N_alloc | apply Kd.N_drewN | apply Kd.N_drew)); exact HO_3.out⟩, ⟨by repeat (first | (with_reducible first | exact HB.out | apply below_alloc | apply pw_below_drewN | apply below_drew1) | exact HB.out)⟩⟩
        · rw [if_neg c5] at H
          exact absurd H (by simp)
      · rw [if_neg c4] at H
        have c4b0 : decide (x4_1 < (t323.length : Int)) = false := decide_eq_false c4
        clear c4
        obtain rfl := Option.some.inj H
        obtain ⟨Ao16, co16, eo16⟩ := Kd.N_slice HO_3.out
        subst eo16
        go_wp2
        go_ret
        exact ⟨by first | rfl | (simp [errW_none, errW_some] <;> rfl) | (simp [*, errW_none, errW_some] <;> rfl), by repeat (first | (with_reducible first | exact HB.out | apply below_alloc | apply pw_below_drewN | apply below_drew1) | exact HB.out)⟩

end Go.Proofs.Ytekllnpmioinfaa.PC10
