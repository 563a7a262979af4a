/- For the laws of the group C11: the Lean functions that the Go functions compute, and proofs that they do. Written by wip/hprint.py of this repo over the kit's printer; nothing here is trusted: Lean checks it. -/
import Derived.Test.YtekllnpmioinfaaPC11x0
import Derived.Test.YtekllnpmioinfaaPC11x1
import Derived.Test.YtekllnpmioinfaaPC11x4
import Derived.Test.YtekllnpmioinfaaPC11x5
import Derived.Test.YtekllnpmioinfaaPC11x6
namespace Go.Proofs.Ytekllnpmioinfaa.PC11
open Go.RowKit Go.Proofs.YtekllnpmioinfaaW.PrintWords Go.Proofs.YtekllnpmioinfaaW.PrintLast Go.Proofs.YtekllnpmioinfaaW.PrintMore
attribute [local go_sem] max2_int min2_int max_two min_two max_three min_three max_four min_four   -- for this text's walks alone
set_option linter.unusedVariables false
set_option linter.unusedSimpArgs false

/-! ### parquetrylaw11_LevelDeep: function 11 -/
mutual
def parquetrylaw11_LevelDeep.j0 : Nat → List Int → Int → List Int → List Int → Bool → Option (Bool)
  | 0, _, _, _, _, _ => none
  | k + 1, x0, x5, x6, x7, x35 => if x35 = true then (some false) else (parquetrylaw11_LevelDeep.l0 k x0 x5 x6 x7 true 0)
def parquetrylaw11_LevelDeep.l0 : Nat → List Int → Int → List Int → List Int → Bool → Int → Option (Bool)
  | 0, _, _, _, _, _, _ => none
  | k + 1, x0, x5, x6, x7, x8, x9 => if x9 < (x0.length : Int) then (if 0 ≤ x9 then ((level_Removed.f (rd x0 x9)).bind fun t183 => (if x9 < (x6.length : Int) then (if (t183 != ((rd x6 x9) == (-1))) = true then (parquetrylaw11_LevelDeep.j2 k x0 x5 x6 x7 x8 x9 (rd x0 x9) t183 true) else (if t183 = true then (if (rd x0 x9) = 10 then (if (rd x6 x9) = x5 then (if x9 < (x7.length : Int) then (if (rd x7 x9) = (rd x0 x9) then (parquetrylaw11_LevelDeep.j2 k x0 x5 x6 x7 x8 x9 (rd x0 x9) t183 false) else (parquetrylaw11_LevelDeep.j2 k x0 x5 x6 x7 x8 x9 (rd x0 x9) t183 true)) else (none)) else (parquetrylaw11_LevelDeep.j2 k x0 x5 x6 x7 x8 x9 (rd x0 x9) t183 true)) else (if x9 < (x7.length : Int) then (if (rd x7 x9) = (rd x0 x9) then (parquetrylaw11_LevelDeep.j2 k x0 x5 x6 x7 x8 x9 (rd x0 x9) t183 false) else (if (rd x7 x9) = 0 then (parquetrylaw11_LevelDeep.j2 k x0 x5 x6 x7 x8 x9 (rd x0 x9) t183 false) else (parquetrylaw11_LevelDeep.j2 k x0 x5 x6 x7 x8 x9 (rd x0 x9) t183 ((rd x7 x9) != 1)))) else (none))) else (if (rd x6 x9) < x5 then (parquetrylaw11_LevelDeep.j2 k x0 x5 x6 x7 x8 x9 (rd x0 x9) t183 true) else (if (rd x6 x9) > 125 then (parquetrylaw11_LevelDeep.j2 k x0 x5 x6 x7 x8 x9 (rd x0 x9) t183 true) else (if (rd x0 x9) = 10 then (if (rd x6 x9) = x5 then (if x9 < (x7.length : Int) then (if (rd x7 x9) = (rd x0 x9) then (parquetrylaw11_LevelDeep.j2 k x0 x5 x6 x7 x8 x9 (rd x0 x9) t183 false) else (parquetrylaw11_LevelDeep.j2 k x0 x5 x6 x7 x8 x9 (rd x0 x9) t183 true)) else (none)) else (parquetrylaw11_LevelDeep.j2 k x0 x5 x6 x7 x8 x9 (rd x0 x9) t183 true)) else (if x9 < (x7.length : Int) then (if (rd x7 x9) = (rd x0 x9) then (parquetrylaw11_LevelDeep.j2 k x0 x5 x6 x7 x8 x9 (rd x0 x9) t183 false) else (if (rd x7 x9) = 0 then (parquetrylaw11_LevelDeep.j2 k x0 x5 x6 x7 x8 x9 (rd x0 x9) t183 false) else (parquetrylaw11_LevelDeep.j2 k x0 x5 x6 x7 x8 x9 (rd x0 x9) t183 ((rd x7 x9) != 1)))) else (none))))))) else (none))) else (none)) else ((parquetrylaw11_awake.f k).bind fun t181 => (some t181))
def parquetrylaw11_LevelDeep.j2 : Nat → List Int → Int → List Int → List Int → Bool → Int → Int → Bool → Bool → Option (Bool)
  | 0, _, _, _, _, _, _, _, _, _ => none
  | k + 1, x0, x5, x6, x7, x8, x9, x10, x11, x115 => if x115 = true then (some false) else (if x8 = true then ((parquetrylaw11_plain.f x10).bind fun t199 => (if t199 = true then (if x11 = true then (parquetrylaw11_LevelDeep.l0 k x0 x5 x6 x7 t199 (wrap64 (x9 + 1))) else (if 0 ≤ x9 then (if x9 < (x6.length : Int) then (if (rd x6 x9) = x5 then (if x9 < (x7.length : Int) then (if (rd x7 x9) = x10 then (parquetrylaw11_LevelDeep.l0 k x0 x5 x6 x7 t199 (wrap64 (x9 + 1))) else (some false)) else (none)) else (some false)) else (none)) else (none))) else (parquetrylaw11_LevelDeep.l0 k x0 x5 x6 x7 t199 (wrap64 (x9 + 1))))) else (parquetrylaw11_LevelDeep.l0 k x0 x5 x6 x7 false (wrap64 (x9 + 1))))
end
def parquetrylaw11_LevelDeep.f (k : Nat) (l0 : List Int) (a1 : Int) : Option (Bool) := if (l0.length : Int) > 1000 then ((parquetrylaw11_awake.f k).bind fun t174 => (some t174)) else ((level_Explicit.f k l0 (Go.bits .and .i64 a1 1)).bind fun bt175 => (if (bt175.1.length : Int) = (l0.length : Int) then (parquetrylaw11_LevelDeep.j0 k l0 (Go.bits .and .i64 a1 1) bt175.1 bt175.2 ((bt175.2.length : Int) != (l0.length : Int))) else (parquetrylaw11_LevelDeep.j0 k l0 (Go.bits .and .i64 a1 1) bt175.1 bt175.2 true)))
theorem parquetrylaw11_LevelDeep.mono_l : ∀ k, (∀ y0 y1 y2 y3 y4, LeO (parquetrylaw11_LevelDeep.j0 k y0 y1 y2 y3 y4) (parquetrylaw11_LevelDeep.j0 (k + 1) y0 y1 y2 y3 y4)) ∧ (∀ y0 y1 y2 y3 y4 y5, LeO (parquetrylaw11_LevelDeep.l0 k y0 y1 y2 y3 y4 y5) (parquetrylaw11_LevelDeep.l0 (k + 1) y0 y1 y2 y3 y4 y5)) ∧ (∀ y0 y1 y2 y3 y4 y5 y6 y7 y8, LeO (parquetrylaw11_LevelDeep.j2 k y0 y1 y2 y3 y4 y5 y6 y7 y8) (parquetrylaw11_LevelDeep.j2 (k + 1) y0 y1 y2 y3 y4 y5 y6 y7 y8))
  | 0 => ⟨fun _ _ _ _ _ r h => by simp [parquetrylaw11_LevelDeep.j0] at h, fun _ _ _ _ _ _ r h => by simp [parquetrylaw11_LevelDeep.l0] at h, fun _ _ _ _ _ _ _ _ _ r h => by simp [parquetrylaw11_LevelDeep.j2] at h⟩
  | k + 1 => by
    obtain ⟨ih0, ih1, ih2⟩ := parquetrylaw11_LevelDeep.mono_l k
    refine ⟨?_, ?_, ?_⟩
    · intro y0 y1 y2 y3 y4
      unfold parquetrylaw11_LevelDeep.j0
      repeat' first
      | (with_reducible exact ih0 _ _ _ _ _)
      | (with_reducible exact ih1 _ _ _ _ _ _)
      | (with_reducible exact ih2 _ _ _ _ _ _ _ _ _)
      | (with_reducible exact level_Explicit.mono _ _ _)
      | (with_reducible exact parquetrylaw11_awake.mono _)
      | (with_reducible exact LeO.refl _)
      | (with_reducible exact LeO.none _)
      | (with_reducible refine LeO.ite ?_ ?_)
      | (with_reducible refine LeO.bind ?_ (fun _ => ?_))
      | exact ih0 _ _ _ _ _
      | exact ih1 _ _ _ _ _ _
      | exact ih2 _ _ _ _ _ _ _ _ _
      | exact level_Explicit.mono _ _ _
      | exact parquetrylaw11_awake.mono _
      | exact LeO.none _
      | refine LeO.ite ?_ ?_
      | refine LeO.bind ?_ (fun _ => ?_)
    · intro y0 y1 y2 y3 y4 y5
      unfold parquetrylaw11_LevelDeep.l0
      repeat' first
      | (with_reducible exact ih0 _ _ _ _ _)
      | (with_reducible exact ih1 _ _ _ _ _ _)
      | (with_reducible exact ih2 _ _ _ _ _ _ _ _ _)
      | (with_reducible exact level_Explicit.mono _ _ _)
      | (with_reducible exact parquetrylaw11_awake.mono _)
      | (with_reducible exact LeO.refl _)
      | (with_reducible exact LeO.none _)
      | (with_reducible refine LeO.ite ?_ ?_)
      | (with_reducible refine LeO.bind ?_ (fun _ => ?_))
      | exact ih0 _ _ _ _ _
      | exact ih1 _ _ _ _ _ _
      | exact ih2 _ _ _ _ _ _ _ _ _
      | exact level_Explicit.mono _ _ _
      | exact parquetrylaw11_awake.mono _
      | exact LeO.none _
      | refine LeO.ite ?_ ?_
      | refine LeO.bind ?_ (fun _ => ?_)
    · intro y0 y1 y2 y3 y4 y5 y6 y7 y8
      unfold parquetrylaw11_LevelDeep.j2
      repeat' first
      | (with_reducible exact ih0 _ _ _ _ _)
      | (with_reducible exact ih1 _ _ _ _ _ _)
      | (with_reducible exact ih2 _ _ _ _ _ _ _ _ _)
      | (with_reducible exact level_Explicit.mono _ _ _)
      | (with_reducible exact parquetrylaw11_awake.mono _)
      | (with_reducible exact LeO.refl _)
      | (with_reducible exact LeO.none _)
      | (with_reducible refine LeO.ite ?_ ?_)
      | (with_reducible refine LeO.bind ?_ (fun _ => ?_))
      | exact ih0 _ _ _ _ _
      | exact ih1 _ _ _ _ _ _
      | exact ih2 _ _ _ _ _ _ _ _ _
      | exact level_Explicit.mono _ _ _
      | exact parquetrylaw11_awake.mono _
      | exact LeO.none _
      | refine LeO.ite ?_ ?_
      | refine LeO.bind ?_ (fun _ => ?_)
theorem parquetrylaw11_LevelDeep.mono : ∀ a0 a1 k, LeO (parquetrylaw11_LevelDeep.f k a0 a1) (parquetrylaw11_LevelDeep.f (k + 1) a0 a1) := by
  intro a0 a1 k
  obtain ⟨ih0, ih1, ih2⟩ := parquetrylaw11_LevelDeep.mono_l k
  unfold parquetrylaw11_LevelDeep.f
  repeat' first
      | (with_reducible exact ih0 _ _ _ _ _)
      | (with_reducible exact ih1 _ _ _ _ _ _)
      | (with_reducible exact ih2 _ _ _ _ _ _ _ _ _)
      | (with_reducible exact level_Explicit.mono _ _ _)
      | (with_reducible exact parquetrylaw11_awake.mono _)
      | (with_reducible exact LeO.refl _)
      | (with_reducible exact LeO.none _)
      | (with_reducible refine LeO.ite ?_ ?_)
      | (with_reducible refine LeO.bind ?_ (fun _ => ?_))
      | exact ih0 _ _ _ _ _
      | exact ih1 _ _ _ _ _ _
      | exact ih2 _ _ _ _ _ _ _ _ _
      | exact level_Explicit.mono _ _ _
      | exact parquetrylaw11_awake.mono _
      | exact LeO.none _
      | refine LeO.ite ?_ ?_
      | refine LeO.bind ?_ (fun _ => ?_)
set_option maxHeartbeats 8000000 in
set_option maxRecDepth 100000 in
theorem parquetrylaw11_LevelDeep.calls (k : Nat) (A0 : Option Addr) (c0 : Nat) (l0 : List Int) (a1 : Int) (r : Bool) (w : World) (hr0 : Kd.C (Kd.int .i64) w A0 l0.length l0) (hc0 : l0.length ≤ c0) (h : parquetrylaw11_LevelDeep.f k l0 a1 = some r) :
    Calls Try.prog 11 #[.slice A0 l0.length c0, .int .i64 a1] w fun e w' => e = .returned (.bool r) ∧ Below w.heap.size w w' := by
  have HR0 := Aside0.mk hr0
  have HC0 := Aside0.mk hc0
  clear hr0 hc0
  have HB := Aside0.mk (Below.refl w.heap.size w)
  have H : (if (l0.length : Int) > 1000 then ((parquetrylaw11_awake.f k).bind fun t174 => (some t174)) else ((level_Explicit.f k l0 (Go.bits .and .i64 a1 1)).bind fun bt175 => (if (bt175.1.length : Int) = (l0.length : Int) then (parquetrylaw11_LevelDeep.j0 k l0 (Go.bits .and .i64 a1 1) bt175.1 bt175.2 ((bt175.2.length : Int) != (l0.length : Int))) else (parquetrylaw11_LevelDeep.j0 k l0 (Go.bits .and .i64 a1 1) bt175.1 bt175.2 true)))) = some r := h
  clear h
  by_cases c3 : (l0.length : Int) > 1000
  · rw [if_pos c3] at H
    have c3b0 : decide (1000 < (l0.length : Int)) = true := decide_eq_true c3
    have c3b1 : decide (1000 < l0.length) = true := decide_eq_true (by omega)
    clear c3
    replace H := Option.bind_eq_some_iff.mp H
    obtain ⟨t174, A40, H⟩ := H
    replace H : (some t174) = some r := H
    have A4 := Aside0.mk A40
    clear A40
    obtain rfl := Option.some.inj H
    go_enter Try.func11, Try.ntmps11
    try dsimp only [List.append]
    go_wp2_with (first | ((with_reducible refine gate_callee (f := 25) rfl ?_); refine goesL_ (some 15) rfl rfl Try.func25 (by kernel_rfl) rfl #[] rfl (by (try simp only [List.map_toArray, List.map_cons, List.map_nil]); first | done | rfl | (simp only [List.length_drop, List.length_take]; rfl)) ?_; (with_reducible refine (parquetrylaw11_awake.calls k  t174 _ A4.out).mono ?_); rintro e w5 ⟨rfl, hb⟩; refine ⟨_, rfl, ?_⟩; have n0_ := Aside0.mk (below_step (by repeat (first | (with_reducible first | exact HB.out | apply below_alloc | apply pw_below_drewN | apply below_drew1) | exact HB.out)) hb); clear HB; have HB := n0_; clear n0_; (try clear hb); (try clear hb2); (try clear hk); (try clear hi)))
    go_ret
    exact ⟨by first | rfl | (simp [errW_none, errW_some] <;> rfl) | (simp [*, errW_none, errW_some] <;> rfl), by repeat (first | (with_reducible first | exact HB.out | apply below_alloc | apply pw_below_drewN | apply below_drew1) | exact HB.out)⟩
  · rw [if_neg c3] at H
    have c3b0 : decide (1000 < (l0.length : Int)) = false := decide_eq_false c3
    have c3b1 : decide (1000 < l0.length) = false := decide_eq_false (by omega)
    clear c3
    replace H := Option.bind_eq_some_iff.mp H
    obtain ⟨⟨t175, t176⟩, A60, H⟩ := H
    replace H : (if (t175.length : Int) = (l0.length : Int) then (parquetrylaw11_LevelDeep.j0 k l0 (Go.bits .and .i64 a1 1) t175 t176 ((t176.length : Int) != (l0.length : Int))) else (parquetrylaw11_LevelDeep.j0 k l0 (Go.bits .and .i64 a1 1) t175 t176 true)) = some r := H
    have A6 := Aside0.mk A60
    clear A60
    have HC7 := Aside0.mk H
    clear H
    go_enter Try.func11, Try.ntmps11
    try dsimp only [List.append]
    go_upto_region 5 with (first | ((with_reducible refine gate_callee (f := 26) rfl ?_); refine goesL_ (some 21) rfl rfl Try.func26 (by kernel_rfl) rfl #[.slice A0 l0.length c0, .int .i64 (Go.bits .and .i64 a1 1)] rfl (by (try simp only [List.map_toArray, List.map_cons, List.map_nil]); first | done | rfl | (simp only [List.length_drop, List.length_take]; rfl)) ?_; (with_reducible refine (level_Explicit.calls k _ _ l0 (Go.bits .and .i64 a1 1) t175 t176 _ ?side1 ?side2 A6.out).mono ?_); (case side1 => repeat (first | exact HR0.out | (with_reducible refine Kd.C_alloc ?_ _) | (with_reducible refine Kd.C_drewN ?_ _) | (with_reducible refine Kd.C_drew ?_))); (case side2 => exact HC0.out); rintro e w8 ⟨v177, v179, rfl, ho0, ho1, hb⟩; refine ⟨_, rfl, ?_⟩; have n0_ := Aside0.mk (Kd.R_lower ho0 (below_size (by repeat (first | (with_reducible first | exact HB.out | apply below_alloc | apply pw_below_drewN | apply below_drew1) | exact HB.out)))); have n1_ := Aside0.mk (Kd.R_lower ho1 (below_size (by repeat (first | (with_reducible first | exact HB.out | apply below_alloc | apply pw_below_drewN | apply below_drew1) | exact HB.out)))); have n2_ := Aside0.mk (below_step (by repeat (first | (with_reducible first | exact HB.out | apply below_alloc | apply pw_below_drewN | apply below_drew1) | exact HB.out)) hb); clear HB; have HO178 := n0_; have HO180 := n1_; have HB := n2_; clear n0_ n1_ n2_; (try clear hb); (try clear hb2); (try clear hk); (try clear hi); (try clear ho0); (try clear ho1)))
    (try simp only [Act.put, List.setIfInBounds_toArray, List.set_cons_zero, List.set_cons_succ])
    go_cut [35] (fun v35 wc => ∃ (kq : Nat) (x35_6 : Bool), v35 = .bool x35_6 ∧ Aside0 (parquetrylaw11_LevelDeep.j0 kq l0 (Go.bits .and .i64 a1 1) t175 t176 x35_6 = some r) ∧ Aside0 (kq ≤ k) ∧ Aside0 (Kd.R (Kd.int .i64) 3 wc w.heap.size (fun k_ => some k_ ≠ (v179 : Value).ownBlock) v177 t175) ∧ Aside0 (Kd.R (Kd.int .i64) 3 wc w.heap.size (fun k_ => some k_ ≠ (v177 : Value).ownBlock) v179 t176) ∧ Aside0 (Below w.heap.size w wc))
    case first =>
      have H := HC7.out
      clear HC7
      by_cases c9 : (t175.length : Int) = (l0.length : Int)
      · rw [if_pos c9] at H
        have c9b0 : ((t175.length : Int) == (l0.length : Int)) = true := beq_iff_eq.mpr c9
        have c9b1 : ((t175.length : Int) != (l0.length : Int)) = false := bne_eq_false_iff_eq.mpr c9
        have c9b2 : (t175.length == l0.length) = true := by first | simpa using c9 | (simp at c9 ⊢; omega)
        clear c9
        (first | rw [c9b0] | (simp only [i64_w, i32_w]; rw [c9b0]) | skip)
        have H' := Aside0.mk H
        clear H
        obtain ⟨Ao10, co10, eo10⟩ := Kd.R_slice HO178.out
        subst eo10
        obtain ⟨Ao11, co11, eo11⟩ := Kd.R_slice HO180.out
        subst eo11
        go_wp2
        go_meet
        case rel => exact ⟨_, (((t176.length : Int) != (l0.length : Int))), (by first | rfl | (simp; done) | (simp [*]; done)), H', ⟨by first | omega | exact Nat.le_refl _⟩, ⟨by (with_reducible repeat (first | apply Kd.R_alloc | apply Kd.R_drewN | apply Kd.R_drew)); exact HO178.out⟩, ⟨by (with_reducible repeat (first | apply Kd.R_alloc | apply Kd.R_drewN | apply Kd.R_drew)); exact HO180.out⟩, ⟨by repeat (first | (with_reducible first | exact HB.out | apply below_alloc | apply pw_below_drewN | apply below_drew1) | exact HB.out)⟩⟩
      · rw [if_neg c9] at H
        have c9b0 : ((t175.length : Int) == (l0.length : Int)) = false := beq_eq_false_iff_ne.mpr c9
        have c9b1 : ((t175.length : Int) != (l0.length : Int)) = true := bne_iff_ne.mpr c9
        have c9b2 : (t175.length == l0.length) = false := by first | simpa using c9 | (simp at c9 ⊢; omega)
        (first | rw [c9b0] | (simp only [i64_w, i32_w]; rw [c9b0]) | skip)
        have H' := Aside0.mk H
        clear H
        obtain ⟨Ao12, co12, eo12⟩ := Kd.R_slice HO178.out
        subst eo12
        go_wp2
        go_meet
        case rel => exact ⟨_, (true), (by first | rfl | (simp; done) | (simp [*]; done)), H', ⟨by first | omega | exact Nat.le_refl _⟩, ⟨by (with_reducible repeat (first | apply Kd.R_alloc | apply Kd.R_drewN | apply Kd.R_drew)); exact HO178.out⟩, ⟨by (with_reducible repeat (first | apply Kd.R_alloc | apply Kd.R_drewN | apply Kd.R_drew)); exact HO180.out⟩, ⟨by repeat (first | (with_reducible first | exact HB.out | apply below_alloc | apply pw_below_drewN | apply below_drew1) | exact HB.out)⟩⟩
    case rest =>
      clear HC7
      try clear c1
      try clear c2
      try clear p2
      try clear c3
      try clear c3b0
      try clear c3b1
      try clear c9
      try clear c9b0
      try clear c9b1
      try clear c9b2
      try clear c11
      obtain ⟨kq, x35_6, rfl, HA, HJ6, HO_6, HO_7, HB⟩ := hcut
      cases kq with
      | zero => exact absurd HA.out (by simp [parquetrylaw11_LevelDeep.j0])
      | succ kj6 =>
        have H := HA.out
        clear HA
        simp only [parquetrylaw11_LevelDeep.j0] at H
        by_cases c13 : x35_6 = true
        · subst c13
          have H1 : (some false) = some r := by rw [if_pos rfl] at H; exact H
          clear H
          have H := H1
          clear H1
          obtain rfl := Option.some.inj H
          go_wp2
          go_ret
          exact ⟨by first | rfl | (simp [errW_none, errW_some] <;> rfl) | (simp [*, errW_none, errW_some] <;> rfl), by repeat (first | (with_reducible first | exact HB.out | apply below_alloc | apply pw_below_drewN | apply below_drew1) | exact HB.out)⟩
        · replace c13 := Bool.eq_false_iff.mpr c13
          subst c13
          have H1 : (parquetrylaw11_LevelDeep.l0 kj6 l0 (Go.bits .and .i64 a1 1) t175 t176 true 0) = some r := by rw [if_neg (show ¬ (false = true) by decide)] at H; exact H
          clear H
          have H := H1
          clear H1
          have H' := Aside0.mk H
          clear H
          go_wp2
          go_loopg [8, 9] kj6 (fun kq v8 v9 w' => ∃ (x8_2 : Bool) (x9_2 : Int), v8 = .bool x8_2 ∧ v9 = .int .i64 x9_2 ∧ Aside0 (parquetrylaw11_LevelDeep.l0 kq l0 (Go.bits .and .i64 a1 1) t175 t176 x8_2 x9_2 = some r) ∧ Aside0 (kq ≤ kj6) ∧ Aside0 (Kd.R (Kd.int .i64) 3 w' w.heap.size (fun k_ => some k_ ≠ (v179 : Value).ownBlock) v177 t175) ∧ Aside0 (Kd.R (Kd.int .i64) 3 w' w.heap.size (fun k_ => some k_ ≠ (v177 : Value).ownBlock) v179 t176) ∧ Aside0 (Below w.heap.size w w'))
          case atStart => exact ⟨(true), (0), (by first | rfl | (simp; done) | (simp [*]; done)), (by first | rfl | (simp; done) | (simp [*]; done)), H', ⟨Nat.le_refl _⟩, ⟨by (with_reducible repeat (first | apply Kd.R_alloc | apply Kd.R_drewN | apply Kd.R_drew)); exact HO_6.out⟩, ⟨by (with_reducible repeat (first | apply Kd.R_alloc | apply Kd.R_drewN | apply Kd.R_drew)); exact HO_7.out⟩, ⟨by repeat (first | (with_reducible first | exact HB.out | apply below_alloc | apply pw_below_drewN | apply below_drew1) | exact HB.out)⟩⟩
          case round =>
            clear H'
            try clear c1
            try clear c2
            try clear p2
            try clear c3
            try clear c3b0
            try clear c3b1
            try clear c9
            try clear c9b0
            try clear c9b1
            try clear c9b2
            try clear c11
            try clear c13
            try clear p2
            obtain ⟨x8_2, x9_2, rfl, rfl, HA, HK2, HO_6, HO_7, HB⟩ := hrel
            cases gk with
            | zero => exact absurd HA.out (by simp [parquetrylaw11_LevelDeep.l0])
            | succ k2 =>
              have H := HA.out
              clear HA
              simp only [parquetrylaw11_LevelDeep.l0] at H
              by_cases c14 : x9_2 < (l0.length : Int)
              · rw [if_pos c14] at H
                have c14b0 : decide (x9_2 < (l0.length : Int)) = true := decide_eq_true c14
                clear c14
                by_cases c15 : 0 ≤ x9_2
                · rw [if_pos c15] at H
                  have c15b0 : decide (0 ≤ x9_2) = true := decide_eq_true c15
                  clear c15
                  replace H := Option.bind_eq_some_iff.mp H
                  obtain ⟨t183, A160, H⟩ := H
                  replace H : (if x9_2 < (t175.length : Int) then (if (t183 != ((rd t175 x9_2) == (-1))) = true then (parquetrylaw11_LevelDeep.j2 k2 l0 (Go.bits .and .i64 a1 1) t175 t176 x8_2 x9_2 (rd l0 x9_2) t183 true) else (if t183 = true then (if (rd l0 x9_2) = 10 then (if (rd t175 x9_2) = (Go.bits .and .i64 a1 1) then (if x9_2 < (t176.length : Int) then (if (rd t176 x9_2) = (rd l0 x9_2) then (parquetrylaw11_LevelDeep.j2 k2 l0 (Go.bits .and .i64 a1 1) t175 t176 x8_2 x9_2 (rd l0 x9_2) t183 false) else (parquetrylaw11_LevelDeep.j2 k2 l0 (Go.bits .and .i64 a1 1) t175 t176 x8_2 x9_2 (rd l0 x9_2) t183 true)) else (none)) else (parquetrylaw11_LevelDeep.j2 k2 l0 (Go.bits .and .i64 a1 1) t175 t176 x8_2 x9_2 (rd l0 x9_2) t183 true)) else (if x9_2 < (t176.length : Int) then (if (rd t176 x9_2) = (rd l0 x9_2) then (parquetrylaw11_LevelDeep.j2 k2 l0 (Go.bits .and .i64 a1 1) t175 t176 x8_2 x9_2 (rd l0 x9_2) t183 false) else (if (rd t176 x9_2) = 0 then (parquetrylaw11_LevelDeep.j2 k2 l0 (Go.bits .and .i64 a1 1) t175 t176 x8_2 x9_2 (rd l0 x9_2) t183 false) else (parquetrylaw11_LevelDeep.j2 k2 l0 (Go.bits .and .i64 a1 1) t175 t176 x8_2 x9_2 (rd l0 x9_2) t183 ((rd t176 x9_2) != 1)))) else (none))) else (if (rd t175 x9_2) < (Go.bits .and .i64 a1 1) then (parquetrylaw11_LevelDeep.j2 k2 l0 (Go.bits .and .i64 a1 1) t175 t176 x8_2 x9_2 (rd l0 x9_2) t183 true) else (if (rd t175 x9_2) > 125 then (parquetrylaw11_LevelDeep.j2 k2 l0 (Go.bits .and .i64 a1 1) t175 t176 x8_2 x9_2 (rd l0 x9_2) t183 true) else (if (rd l0 x9_2) = 10 then (if (rd t175 x9_2) = (Go.bits .and .i64 a1 1) then (if x9_2 < (t176.length : Int) then (if (rd t176 x9_2) = (rd l0 x9_2) then (parquetrylaw11_LevelDeep.j2 k2 l0 (Go.bits .and .i64 a1 1) t175 t176 x8_2 x9_2 (rd l0 x9_2) t183 false) else (parquetrylaw11_LevelDeep.j2 k2 l0 (Go.bits .and .i64 a1 1) t175 t176 x8_2 x9_2 (rd l0 x9_2) t183 true)) else (none)) else (parquetrylaw11_LevelDeep.j2 k2 l0 (Go.bits .and .i64 a1 1) t175 t176 x8_2 x9_2 (rd l0 x9_2) t183 true)) else (if x9_2 < (t176.length : Int) then (if (rd t176 x9_2) = (rd l0 x9_2) then (parquetrylaw11_LevelDeep.j2 k2 l0 (Go.bits .and .i64 a1 1) t175 t176 x8_2 x9_2 (rd l0 x9_2) t183 false) else (if (rd t176 x9_2) = 0 then (parquetrylaw11_LevelDeep.j2 k2 l0 (Go.bits .and .i64 a1 1) t175 t176 x8_2 x9_2 (rd l0 x9_2) t183 false) else (parquetrylaw11_LevelDeep.j2 k2 l0 (Go.bits .and .i64 a1 1) t175 t176 x8_2 x9_2 (rd l0 x9_2) t183 ((rd t176 x9_2) != 1)))) else (none))))))) else (none)) = some r := H
                  have A16 := Aside0.mk A160
                  clear A160
                  have HC17 := Aside0.mk H
                  clear H
                  have p182 : 0 ≤ (x9_2 : Int) := of_decide_eq_true (by first | (with_reducible assumption) | assumption)
                  have q182 : x9_2 < (l0.length : Int) := of_decide_eq_true (by first | (with_reducible assumption) | assumption)
                  obtain ⟨ad182, e182, hx182_0⟩ := Kd.at_int HR0.out x9_2 p182 q182
                  cases e182
                  replace hx182_0 := (HB.out.cell (World.block_lt_of_cell? w _ hx182_0)).trans hx182_0
                  replace p182 := eq_true p182
                  replace q182 := eq_true q182
                  go_upto_region 13 with (first | ((with_reducible refine gate_callee (f := 28) rfl ?_); refine goesL_ (some 47) rfl rfl Try.func28 (by kernel_rfl) rfl #[.int .i64 (rd l0 x9_2)] rfl (by (try simp only [List.map_toArray, List.map_cons, List.map_nil]); first | done | rfl | (simp only [List.length_drop, List.length_take]; rfl)) ?_; (with_reducible refine (level_Removed.calls (rd l0 x9_2) t183 _ A16.out).mono ?_); rintro e w' ⟨rfl, ⟨nd, rfl⟩⟩; refine ⟨_, rfl, ?_⟩))
                  (try simp only [Act.put, List.setIfInBounds_toArray, List.set_cons_zero, List.set_cons_succ])
                  go_cut [115] (fun v115 wc => ∃ (kq : Nat) (x115_16 : Bool), v115 = .bool x115_16 ∧ Aside0 (parquetrylaw11_LevelDeep.j2 kq l0 (Go.bits .and .i64 a1 1) t175 t176 x8_2 x9_2 (rd l0 x9_2) t183 x115_16 = some r) ∧ Aside0 (kq ≤ k2) ∧ Aside0 (Kd.R (Kd.int .i64) 3 wc w.heap.size (fun k_ => some k_ ≠ (v179 : Value).ownBlock) v177 t175) ∧ Aside0 (Kd.R (Kd.int .i64) 3 wc w.heap.size (fun k_ => some k_ ≠ (v177 : Value).ownBlock) v179 t176) ∧ Aside0 (Below w.heap.size w wc))
                  case first =>
                    have H := HC17.out
                    clear HC17
                    by_cases c18 : x9_2 < (t175.length : Int)
                    · rw [if_pos c18] at H
                      have c18b0 : decide (x9_2 < (t175.length : Int)) = true := decide_eq_true c18
                      clear c18
                      (first | rw [c18b0] | (simp only [i64_w, i32_w]; rw [c18b0]) | skip)
                      by_cases c19 : (t183 != ((rd t175 x9_2) == (-1))) = true
                      · rw [if_pos c19] at H
                        have c19b0 : (t183 != ((rd t175 x9_2) == (-1))) = true := c19
                        (try (have c19b1 : decide (t183 = ((rd t175 x9_2) == (-1))) = false := by simpa using c19))
                        (try (have c19b2 : (t183 == ((rd t175 x9_2) == (-1))) = false := by simpa using c19))
                        (try (have c19b3 : ¬ (t183 = ((rd t175 x9_2) == (-1))) := by simpa using c19))
                        clear c19
                        have H' := Aside0.mk H
                        clear H
                        obtain ⟨Ao20, co20, eo20⟩ := Kd.R_slice HO_6.out
                        subst eo20
                        have p184 : 0 ≤ (x9_2 : Int) := of_decide_eq_true (by first | (with_reducible assumption) | assumption)
                        have q184 : x9_2 < (t175.length : Int) := of_decide_eq_true (by first | (with_reducible assumption) | assumption)
                        obtain ⟨ad184, e184, hx184_0⟩ := Kd.at_int (Kd.R_reads' HO_6.out).2.2 x9_2 p184 q184
                        cases e184
                        replace p184 := eq_true p184
                        replace q184 := eq_true q184
                        go_wp2
                        go_meet
                        case rel => exact ⟨_, (true), (by first | rfl | (simp; done) | (simp [*]; done)), H', ⟨by have := HJ6.out; have := HK2.out; first | omega | exact Nat.le_refl _⟩, ⟨by (with_reducible repeat (first | apply Kd.R_alloc | apply Kd.R_drewN | apply Kd.R_drew)); exact HO_6.out⟩, ⟨by (with_reducible repeat (first | apply Kd.R_alloc | apply Kd.R_drewN | apply Kd.R_drew)); exact HO_7.out⟩, ⟨by repeat (first | (with_reducible first | exact HB.out | apply below_alloc | apply pw_below_drewN | apply below_drew1) | exact HB.out)⟩⟩
                      · rw [if_neg c19] at H
                        have c19b0 : (t183 != ((rd t175 x9_2) == (-1))) = false := by simpa using c19
                        (try (have c19b1 : decide (t183 = ((rd t175 x9_2) == (-1))) = true := by simpa using c19))
                        (try (have c19b2 : (t183 == ((rd t175 x9_2) == (-1))) = true := by simpa using c19))
                        clear c19
                        by_cases c21 : t183 = true
                        · subst c21
                          have H1 : (if (rd l0 x9_2) = 10 then (if (rd t175 x9_2) = (Go.bits .and .i64 a1 1) then (if x9_2 < (t176.length : Int) then (if (rd t176 x9_2) = (rd l0 x9_2) then (parquetrylaw11_LevelDeep.j2 k2 l0 (Go.bits .and .i64 a1 1) t175 t176 x8_2 x9_2 (rd l0 x9_2) true false) else (parquetrylaw11_LevelDeep.j2 k2 l0 (Go.bits .and .i64 a1 1) t175 t176 x8_2 x9_2 (rd l0 x9_2) true true)) else (none)) else (parquetrylaw11_LevelDeep.j2 k2 l0 (Go.bits .and .i64 a1 1) t175 t176 x8_2 x9_2 (rd l0 x9_2) true true)) else (if x9_2 < (t176.length : Int) then (if (rd t176 x9_2) = (rd l0 x9_2) then (parquetrylaw11_LevelDeep.j2 k2 l0 (Go.bits .and .i64 a1 1) t175 t176 x8_2 x9_2 (rd l0 x9_2) true false) else (if (rd t176 x9_2) = 0 then (parquetrylaw11_LevelDeep.j2 k2 l0 (Go.bits .and .i64 a1 1) t175 t176 x8_2 x9_2 (rd l0 x9_2) true false) else (parquetrylaw11_LevelDeep.j2 k2 l0 (Go.bits .and .i64 a1 1) t175 t176 x8_2 x9_2 (rd l0 x9_2) true ((rd t176 x9_2) != 1)))) else (none))) = some r := by rw [if_pos rfl] at H; exact H
                          clear H
                          have H := H1
                          clear H1
                          by_cases c22 : (rd l0 x9_2) = 10
                          · rw [if_pos c22] at H
                            have c22b0 : ((rd l0 x9_2) == 10) = true := beq_iff_eq.mpr c22
                            have c22b1 : ((rd l0 x9_2) != 10) = false := bne_eq_false_iff_eq.mpr c22
                            clear c22
                            by_cases c23 : (rd t175 x9_2) = (Go.bits .and .i64 a1 1)
                            · rw [if_pos c23] at H
                              have c23b0 : ((rd t175 x9_2) == (Go.bits .and .i64 a1 1)) = true := beq_iff_eq.mpr c23
                              have c23b1 : ((rd t175 x9_2) != (Go.bits .and .i64 a1 1)) = false := bne_eq_false_iff_eq.mpr c23
                              clear c23
                              by_cases c24 : x9_2 < (t176.length : Int)
                              · rw [if_pos c24] at H
                                have c24b0 : decide (x9_2 < (t176.length : Int)) = true := decide_eq_true c24
                                clear c24
                                by_cases c25 : (rd t176 x9_2) = (rd l0 x9_2)
                                · rw [if_pos c25] at H
                                  have c25b0 : ((rd t176 x9_2) == (rd l0 x9_2)) = true := beq_iff_eq.mpr c25
                                  have c25b1 : ((rd t176 x9_2) != (rd l0 x9_2)) = false := bne_eq_false_iff_eq.mpr c25
                                  clear c25
                                  have H' := Aside0.mk H
                                  clear H
                                  obtain ⟨Ao26, co26, eo26⟩ := Kd.R_slice HO_6.out
                                  subst eo26
                                  have p184 : 0 ≤ (x9_2 : Int) := of_decide_eq_true (by first | (with_reducible assumption) | assumption)
                                  have q184 : x9_2 < (t175.length : Int) := of_decide_eq_true (by first | (with_reducible assumption) | assumption)
                                  obtain ⟨ad184, e184, hx184_0⟩ := Kd.at_int (Kd.R_reads' HO_6.out).2.2 x9_2 p184 q184
                                  cases e184
                                  replace p184 := eq_true p184
                                  replace q184 := eq_true q184
                                  have p185 : 0 ≤ (x9_2 : Int) := of_decide_eq_true (by first | (with_reducible assumption) | assumption)
                                  have q185 : x9_2 < (t175.length : Int) := of_decide_eq_true (by first | (with_reducible assumption) | assumption)
                                  obtain ⟨ad185, e185, hx185_0⟩ := Kd.at_int (Kd.R_reads' HO_6.out).2.2 x9_2 p185 q185
                                  obtain rfl : ad184 = ad185 := (by injection e185)
                                  replace p185 := eq_true p185
                                  replace q185 := eq_true q185
                                  obtain ⟨Ao27, co27, eo27⟩ := Kd.R_slice HO_7.out
                                  subst eo27
                                  have p186 : 0 ≤ (x9_2 : Int) := of_decide_eq_true (by first | (with_reducible assumption) | assumption)
                                  have q186 : x9_2 < (t176.length : Int) := of_decide_eq_true (by first | (with_reducible assumption) | assumption)
                                  obtain ⟨ad186, e186, hx186_0⟩ := Kd.at_int (Kd.R_reads' HO_7.out).2.2 x9_2 p186 q186
                                  cases e186
                                  replace p186 := eq_true p186
                                  replace q186 := eq_true q186
                                  have p187 : 0 ≤ (x9_2 : Int) := of_decide_eq_true (by first | (with_reducible assumption) | assumption)
                                  have q187 : x9_2 < (t176.length : Int) := of_decide_eq_true (by first | (with_reducible assumption) | assumption)
                                  obtain ⟨ad187, e187, hx187_0⟩ := Kd.at_int (Kd.R_reads' HO_7.out).2.2 x9_2 p187 q187
                                  obtain rfl : ad186 = ad187 := (by injection e187)
                                  replace p187 := eq_true p187
                                  replace q187 := eq_true q187
                                  go_wp2
                                  go_meet
                                  case rel => exact ⟨_, (false), (by first | rfl | (simp; done) | (simp [*]; done)), H', ⟨by have := HJ6.out; have := HK2.out; first | omega | exact Nat.le_refl _⟩, ⟨by (with_reducible repeat (first | apply Kd.R_alloc | apply Kd.R_drewN | apply Kd.R_drew)); exact HO_6.out⟩, ⟨by (with_reducible repeat (first | apply Kd.R_alloc | apply Kd.R_drewN | apply Kd.R_drew)); exact HO_7.out⟩, ⟨by repeat (first | (with_reducible first | exact HB.out | apply below_alloc | apply pw_below_drewN | apply below_drew1) | exact HB.out)⟩⟩
                                · rw [if_neg c25] at H
                                  have c25b0 : ((rd t176 x9_2) == (rd l0 x9_2)) = false := beq_eq_false_iff_ne.mpr c25
                                  have c25b1 : ((rd t176 x9_2) != (rd l0 x9_2)) = true := bne_iff_ne.mpr c25
                                  have H' := Aside0.mk H
                                  clear H
                                  obtain ⟨Ao28, co28, eo28⟩ := Kd.R_slice HO_6.out
                                  subst eo28
                                  have p184 : 0 ≤ (x9_2 : Int) := of_decide_eq_true (by first | (with_reducible assumption) | assumption)
                                  have q184 : x9_2 < (t175.length : Int) := of_decide_eq_true (by first | (with_reducible assumption) | assumption)
                                  obtain ⟨ad184, e184, hx184_0⟩ := Kd.at_int (Kd.R_reads' HO_6.out).2.2 x9_2 p184 q184
                                  cases e184
                                  replace p184 := eq_true p184
                                  replace q184 := eq_true q184
                                  have p185 : 0 ≤ (x9_2 : Int) := of_decide_eq_true (by first | (with_reducible assumption) | assumption)
                                  have q185 : x9_2 < (t175.length : Int) := of_decide_eq_true (by first | (with_reducible assumption) | assumption)
                                  obtain ⟨ad185, e185, hx185_0⟩ := Kd.at_int (Kd.R_reads' HO_6.out).2.2 x9_2 p185 q185
                                  obtain rfl : ad184 = ad185 := (by injection e185)
                                  replace p185 := eq_true p185
                                  replace q185 := eq_true q185
                                  obtain ⟨Ao29, co29, eo29⟩ := Kd.R_slice HO_7.out
                                  subst eo29
                                  have p186 : 0 ≤ (x9_2 : Int) := of_decide_eq_true (by first | (with_reducible assumption) | assumption)
                                  have q186 : x9_2 < (t176.length : Int) := of_decide_eq_true (by first | (with_reducible assumption) | assumption)
                                  obtain ⟨ad186, e186, hx186_0⟩ := Kd.at_int (Kd.R_reads' HO_7.out).2.2 x9_2 p186 q186
                                  cases e186
                                  replace p186 := eq_true p186
                                  replace q186 := eq_true q186
                                  go_wp2
                                  go_meet
                                  case rel => exact ⟨_, (true), (by first | rfl | (simp; done) | (simp [*]; done)), H', ⟨by have := HJ6.out; have := HK2.out; first | omega | exact Nat.le_refl _⟩, ⟨by (with_reducible repeat (first | apply Kd.R_alloc | apply Kd.R_drewN | apply Kd.R_drew)); exact HO_6.out⟩, ⟨by (with_reducible repeat (first | apply Kd.R_alloc | apply Kd.R_drewN | apply Kd.R_drew)); exact HO_7.out⟩, ⟨by repeat (first | (with_reducible first | exact HB.out | apply below_alloc | apply pw_below_drewN | apply below_drew1) | exact HB.out)⟩⟩
                              · rw [if_neg c24] at H
                                exact absurd H (by simp)
                            · rw [if_neg c23] at H
                              have c23b0 : ((rd t175 x9_2) == (Go.bits .and .i64 a1 1)) = false := beq_eq_false_iff_ne.mpr c23
                              have c23b1 : ((rd t175 x9_2) != (Go.bits .and .i64 a1 1)) = true := bne_iff_ne.mpr c23
                              have H' := Aside0.mk H
                              clear H
                              obtain ⟨Ao30, co30, eo30⟩ := Kd.R_slice HO_6.out
                              subst eo30
                              have p184 : 0 ≤ (x9_2 : Int) := of_decide_eq_true (by first | (with_reducible assumption) | assumption)
                              have q184 : x9_2 < (t175.length : Int) := of_decide_eq_true (by first | (with_reducible assumption) | assumption)
                              obtain ⟨ad184, e184, hx184_0⟩ := Kd.at_int (Kd.R_reads' HO_6.out).2.2 x9_2 p184 q184
                              cases e184
                              replace p184 := eq_true p184
                              replace q184 := eq_true q184
                              have p185 : 0 ≤ (x9_2 : Int) := of_decide_eq_true (by first | (with_reducible assumption) | assumption)
                              have q185 : x9_2 < (t175.length : Int) := of_decide_eq_true (by first | (with_reducible assumption) | assumption)
                              obtain ⟨ad185, e185, hx185_0⟩ := Kd.at_int (Kd.R_reads' HO_6.out).2.2 x9_2 p185 q185
                              obtain rfl : ad184 = ad185 := (by injection e185)
                              replace p185 := eq_true p185
                              replace q185 := eq_true q185
                              go_wp2
                              go_meet
                              case rel => exact ⟨_, (true), (by first | rfl | (simp; done) | (simp [*]; done)), H', ⟨by have := HJ6.out; have := HK2.out; first | omega | exact Nat.le_refl _⟩, ⟨by (with_reducible repeat (first | apply Kd.R_alloc | apply Kd.R_drewN | apply Kd.R_drew)); exact HO_6.out⟩, ⟨by (with_reducible repeat (first | apply Kd.R_alloc | apply Kd.R_drewN | apply Kd.R_drew)); exact HO_7.out⟩, ⟨by repeat (first | (with_reducible first | exact HB.out | apply below_alloc | apply pw_below_drewN | apply below_drew1) | exact HB.out)⟩⟩
                          · rw [if_neg c22] at H
                            have c22b0 : ((rd l0 x9_2) == 10) = false := beq_eq_false_iff_ne.mpr c22
                            have c22b1 : ((rd l0 x9_2) != 10) = true := bne_iff_ne.mpr c22
                            by_cases c31 : x9_2 < (t176.length : Int)
                            · rw [if_pos c31] at H
                              have c31b0 : decide (x9_2 < (t176.length : Int)) = true := decide_eq_true c31
                              clear c31
                              by_cases c32 : (rd t176 x9_2) = (rd l0 x9_2)
                              · rw [if_pos c32] at H
                                have c32b0 : ((rd t176 x9_2) == (rd l0 x9_2)) = true := beq_iff_eq.mpr c32
                                have c32b1 : ((rd t176 x9_2) != (rd l0 x9_2)) = false := bne_eq_false_iff_eq.mpr c32
                                clear c32
                                have H' := Aside0.mk H
                                clear H
                                obtain ⟨Ao33, co33, eo33⟩ := Kd.R_slice HO_6.out
                                subst eo33
                                have p184 : 0 ≤ (x9_2 : Int) := of_decide_eq_true (by first | (with_reducible assumption) | assumption)
                                have q184 : x9_2 < (t175.length : Int) := of_decide_eq_true (by first | (with_reducible assumption) | assumption)
                                obtain ⟨ad184, e184, hx184_0⟩ := Kd.at_int (Kd.R_reads' HO_6.out).2.2 x9_2 p184 q184
                                cases e184
                                replace p184 := eq_true p184
                                replace q184 := eq_true q184
                                obtain ⟨Ao34, co34, eo34⟩ := Kd.R_slice HO_7.out
                                subst eo34
                                have p188 : 0 ≤ (x9_2 : Int) := of_decide_eq_true (by first | (with_reducible assumption) | assumption)
                                have q188 : x9_2 < (t176.length : Int) := of_decide_eq_true (by first | (with_reducible assumption) | assumption)
                                obtain ⟨ad188, e188, hx188_0⟩ := Kd.at_int (Kd.R_reads' HO_7.out).2.2 x9_2 p188 q188
                                cases e188
                                replace p188 := eq_true p188
                                replace q188 := eq_true q188
                                go_wp2
                                go_meet
                                case rel => exact ⟨_, (false), (by first | rfl | (simp; done) | (simp [*]; done)), H', ⟨by have := HJ6.out; have := HK2.out; first | omega | exact Nat.le_refl _⟩, ⟨by (with_reducible repeat (first | apply Kd.R_alloc | apply Kd.R_drewN | apply Kd.R_drew)); exact HO_6.out⟩, ⟨by (with_reducible repeat (first | apply Kd.R_alloc | apply Kd.R_drewN | apply Kd.R_drew)); exact HO_7.out⟩, ⟨by repeat (first | (with_reducible first | exact HB.out | apply below_alloc | apply pw_below_drewN | apply below_drew1) | exact HB.out)⟩⟩
                              · rw [if_neg c32] at H
                                have c32b0 : ((rd t176 x9_2) == (rd l0 x9_2)) = false := beq_eq_false_iff_ne.mpr c32
                                have c32b1 : ((rd t176 x9_2) != (rd l0 x9_2)) = true := bne_iff_ne.mpr c32
                                by_cases c35 : (rd t176 x9_2) = 0
                                · rw [if_pos c35] at H
                                  have c35b0 : ((rd t176 x9_2) == 0) = true := beq_iff_eq.mpr c35
                                  have c35b1 : ((rd t176 x9_2) != 0) = false := bne_eq_false_iff_eq.mpr c35
                                  clear c35
                                  have H' := Aside0.mk H
                                  clear H
                                  obtain ⟨Ao36, co36, eo36⟩ := Kd.R_slice HO_6.out
                                  subst eo36
                                  have p184 : 0 ≤ (x9_2 : Int) := of_decide_eq_true (by first | (with_reducible assumption) | assumption)
                                  have q184 : x9_2 < (t175.length : Int) := of_decide_eq_true (by first | (with_reducible assumption) | assumption)
                                  obtain ⟨ad184, e184, hx184_0⟩ := Kd.at_int (Kd.R_reads' HO_6.out).2.2 x9_2 p184 q184
                                  cases e184
                                  replace p184 := eq_true p184
                                  replace q184 := eq_true q184
                                  obtain ⟨Ao37, co37, eo37⟩ := Kd.R_slice HO_7.out
                                  subst eo37
                                  have p188 : 0 ≤ (x9_2 : Int) := of_decide_eq_true (by first | (with_reducible assumption) | assumption)
                                  have q188 : x9_2 < (t176.length : Int) := of_decide_eq_true (by first | (with_reducible assumption) | assumption)
                                  obtain ⟨ad188, e188, hx188_0⟩ := Kd.at_int (Kd.R_reads' HO_7.out).2.2 x9_2 p188 q188
                                  cases e188
                                  replace p188 := eq_true p188
                                  replace q188 := eq_true q188
                                  have p189 : 0 ≤ (x9_2 : Int) := of_decide_eq_true (by first | (with_reducible assumption) | assumption)
                                  have q189 : x9_2 < (t176.length : Int) := of_decide_eq_true (by first | (with_reducible assumption) | assumption)
                                  obtain ⟨ad189, e189, hx189_0⟩ := Kd.at_int (Kd.R_reads' HO_7.out).2.2 x9_2 p189 q189
                                  obtain rfl : ad188 = ad189 := (by injection e189)
                                  replace p189 := eq_true p189
                                  replace q189 := eq_true q189
                                  go_wp2
                                  go_meet
                                  case rel => exact ⟨_, (false), (by first | rfl | (simp; done) | (simp [*]; done)), H', ⟨by have := HJ6.out; have := HK2.out; first | omega | exact Nat.le_refl _⟩, ⟨by (with_reducible repeat (first | apply Kd.R_alloc | apply Kd.R_drewN | apply Kd.R_drew)); exact HO_6.out⟩, ⟨by (with_reducible repeat (first | apply Kd.R_alloc | apply Kd.R_drewN | apply Kd.R_drew)); exact HO_7.out⟩, ⟨by repeat (first | (with_reducible first | exact HB.out | apply below_alloc | apply pw_below_drewN | apply below_drew1) | exact HB.out)⟩⟩
                                · rw [if_neg c35] at H
                                  have c35b0 : ((rd t176 x9_2) == 0) = false := beq_eq_false_iff_ne.mpr c35
                                  have c35b1 : ((rd t176 x9_2) != 0) = true := bne_iff_ne.mpr c35
                                  have H' := Aside0.mk H
                                  clear H
                                  obtain ⟨Ao38, co38, eo38⟩ := Kd.R_slice HO_6.out
                                  subst eo38
                                  have p184 : 0 ≤ (x9_2 : Int) := of_decide_eq_true (by first | (with_reducible assumption) | assumption)
                                  have q184 : x9_2 < (t175.length : Int) := of_decide_eq_true (by first | (with_reducible assumption) | assumption)
                                  obtain ⟨ad184, e184, hx184_0⟩ := Kd.at_int (Kd.R_reads' HO_6.out).2.2 x9_2 p184 q184
                                  cases e184
                                  replace p184 := eq_true p184
                                  replace q184 := eq_true q184
                                  obtain ⟨Ao39, co39, eo39⟩ := Kd.R_slice HO_7.out
                                  subst eo39
                                  have p188 : 0 ≤ (x9_2 : Int) := of_decide_eq_true (by first | (with_reducible assumption) | assumption)
                                  have q188 : x9_2 < (t176.length : Int) := of_decide_eq_true (by first | (with_reducible assumption) | assumption)
                                  obtain ⟨ad188, e188, hx188_0⟩ := Kd.at_int (Kd.R_reads' HO_7.out).2.2 x9_2 p188 q188
                                  cases e188
                                  replace p188 := eq_true p188
                                  replace q188 := eq_true q188
                                  have p189 : 0 ≤ (x9_2 : Int) := of_decide_eq_true (by first | (with_reducible assumption) | assumption)
                                  have q189 : x9_2 < (t176.length : Int) := of_decide_eq_true (by first | (with_reducible assumption) | assumption)
                                  obtain ⟨ad189, e189, hx189_0⟩ := Kd.at_int (Kd.R_reads' HO_7.out).2.2 x9_2 p189 q189
                                  obtain rfl : ad188 = ad189 := (by injection e189)
                                  replace p189 := eq_true p189
                                  replace q189 := eq_true q189
                                  have p190 : 0 ≤ (x9_2 : Int) := of_decide_eq_true (by first | (with_reducible assumption) | assumption)
                                  have q190 : x9_2 < (t176.length : Int) := of_decide_eq_true (by first | (with_reducible assumption) | assumption)
                                  obtain ⟨ad190, e190, hx190_0⟩ := Kd.at_int (Kd.R_reads' HO_7.out).2.2 x9_2 p190 q190
                                  obtain rfl : ad188 = ad190 := (by injection e190)
                                  replace p190 := eq_true p190
                                  replace q190 := eq_true q190
                                  go_wp2
                                  go_meet
                                  case rel => exact ⟨_, (((rd t176 x9_2) != 1)), (by first | rfl | (simp; done) | (simp [*]; done)), H', ⟨by have := HJ6.out; have := HK2.out; first | omega | exact Nat.le_refl _⟩, ⟨by (with_reducible repeat (first | apply Kd.R_alloc | apply Kd.R_drewN | apply Kd.R_drew)); exact HO_6.out⟩, ⟨by (with_reducible repeat (first | apply Kd.R_alloc | apply Kd.R_drewN | apply Kd.R_drew)); exact HO_7.out⟩, ⟨by repeat (first | (with_reducible first | exact HB.out | apply below_alloc | apply pw_below_drewN | apply below_drew1) | exact HB.out)⟩⟩
                            · rw [if_neg c31] at H
                              exact absurd H (by simp)
                        · replace c21 := Bool.eq_false_iff.mpr c21
                          subst c21
                          have H1 : (if (rd t175 x9_2) < (Go.bits .and .i64 a1 1) then (parquetrylaw11_LevelDeep.j2 k2 l0 (Go.bits .and .i64 a1 1) t175 t176 x8_2 x9_2 (rd l0 x9_2) false true) else (if (rd t175 x9_2) > 125 then (parquetrylaw11_LevelDeep.j2 k2 l0 (Go.bits .and .i64 a1 1) t175 t176 x8_2 x9_2 (rd l0 x9_2) false true) else (if (rd l0 x9_2) = 10 then (if (rd t175 x9_2) = (Go.bits .and .i64 a1 1) then (if x9_2 < (t176.length : Int) then (if (rd t176 x9_2) = (rd l0 x9_2) then (parquetrylaw11_LevelDeep.j2 k2 l0 (Go.bits .and .i64 a1 1) t175 t176 x8_2 x9_2 (rd l0 x9_2) false false) else (parquetrylaw11_LevelDeep.j2 k2 l0 (Go.bits .and .i64 a1 1) t175 t176 x8_2 x9_2 (rd l0 x9_2) false true)) else (none)) else (parquetrylaw11_LevelDeep.j2 k2 l0 (Go.bits .and .i64 a1 1) t175 t176 x8_2 x9_2 (rd l0 x9_2) false true)) else (if x9_2 < (t176.length : Int) then (if (rd t176 x9_2) = (rd l0 x9_2) then (parquetrylaw11_LevelDeep.j2 k2 l0 (Go.bits .and .i64 a1 1) t175 t176 x8_2 x9_2 (rd l0 x9_2) false false) else (if (rd t176 x9_2) = 0 then (parquetrylaw11_LevelDeep.j2 k2 l0 (Go.bits .and .i64 a1 1) t175 t176 x8_2 x9_2 (rd l0 x9_2) false false) else (parquetrylaw11_LevelDeep.j2 k2 l0 (Go.bits .and .i64 a1 1) t175 t176 x8_2 x9_2 (rd l0 x9_2) false ((rd t176 x9_2) != 1)))) else (none))))) = some r := by rw [if_neg (show ¬ (false = true) by decide)] at H; exact H
                          clear H
                          have H := H1
                          clear H1
                          by_cases c40 : (rd t175 x9_2) < (Go.bits .and .i64 a1 1)
                          · rw [if_pos c40] at H
                            have c40b0 : decide ((rd t175 x9_2) < (Go.bits .and .i64 a1 1)) = true := decide_eq_true c40
                            clear c40
                            have H' := Aside0.mk H
                            clear H
                            obtain ⟨Ao41, co41, eo41⟩ := Kd.R_slice HO_6.out
                            subst eo41
                            have p184 : 0 ≤ (x9_2 : Int) := of_decide_eq_true (by first | (with_reducible assumption) | assumption)
                            have q184 : x9_2 < (t175.length : Int) := of_decide_eq_true (by first | (with_reducible assumption) | assumption)
                            obtain ⟨ad184, e184, hx184_0⟩ := Kd.at_int (Kd.R_reads' HO_6.out).2.2 x9_2 p184 q184
                            cases e184
                            replace p184 := eq_true p184
                            replace q184 := eq_true q184
                            have p191 : 0 ≤ (x9_2 : Int) := of_decide_eq_true (by first | (with_reducible assumption) | assumption)
                            have q191 : x9_2 < (t175.length : Int) := of_decide_eq_true (by first | (with_reducible assumption) | assumption)
                            obtain ⟨ad191, e191, hx191_0⟩ := Kd.at_int (Kd.R_reads' HO_6.out).2.2 x9_2 p191 q191
                            obtain rfl : ad184 = ad191 := (by injection e191)
                            replace p191 := eq_true p191
                            replace q191 := eq_true q191
                            go_wp2
                            go_meet
                            case rel => exact ⟨_, (true), (by first | rfl | (simp; done) | (simp [*]; done)), H', ⟨by have := HJ6.out; have := HK2.out; first | omega | exact Nat.le_refl _⟩, ⟨by (with_reducible repeat (first | apply Kd.R_alloc | apply Kd.R_drewN | apply Kd.R_drew)); exact HO_6.out⟩, ⟨by (with_reducible repeat (first | apply Kd.R_alloc | apply Kd.R_drewN | apply Kd.R_drew)); exact HO_7.out⟩, ⟨by repeat (first | (with_reducible first | exact HB.out | apply below_alloc | apply pw_below_drewN | apply below_drew1) | exact HB.out)⟩⟩
                          · rw [if_neg c40] at H
                            have c40b0 : decide ((rd t175 x9_2) < (Go.bits .and .i64 a1 1)) = false := decide_eq_false c40
                            clear c40
                            by_cases c42 : (rd t175 x9_2) > 125
                            · rw [if_pos c42] at H
                              have c42b0 : decide (125 < (rd t175 x9_2)) = true := decide_eq_true c42
                              clear c42
                              have H' := Aside0.mk H
                              clear H
                              obtain ⟨Ao43, co43, eo43⟩ := Kd.R_slice HO_6.out
                              subst eo43
                              have p184 : 0 ≤ (x9_2 : Int) := of_decide_eq_true (by first | (with_reducible assumption) | assumption)
                              have q184 : x9_2 < (t175.length : Int) := of_decide_eq_true (by first | (with_reducible assumption) | assumption)
                              obtain ⟨ad184, e184, hx184_0⟩ := Kd.at_int (Kd.R_reads' HO_6.out).2.2 x9_2 p184 q184
                              cases e184
                              replace p184 := eq_true p184
                              replace q184 := eq_true q184
                              have p191 : 0 ≤ (x9_2 : Int) := of_decide_eq_true (by first | (with_reducible assumption) | assumption)
                              have q191 : x9_2 < (t175.length : Int) := of_decide_eq_true (by first | (with_reducible assumption) | assumption)
                              obtain ⟨ad191, e191, hx191_0⟩ := Kd.at_int (Kd.R_reads' HO_6.out).2.2 x9_2 p191 q191
                              obtain rfl : ad184 = ad191 := (by injection e191)
                              replace p191 := eq_true p191
                              replace q191 := eq_true q191
                              have p192 : 0 ≤ (x9_2 : Int) := of_decide_eq_true (by first | (with_reducible assumption) | assumption)
                              have q192 : x9_2 < (t175.length : Int) := of_decide_eq_true (by first | (with_reducible assumption) | assumption)
                              obtain ⟨ad192, e192, hx192_0⟩ := Kd.at_int (Kd.R_reads' HO_6.out).2.2 x9_2 p192 q192
                              obtain rfl : ad184 = ad192 := (by injection e192)
                              replace p192 := eq_true p192
                              replace q192 := eq_true q192
                              go_wp2
                              go_meet
                              case rel => exact ⟨_, (true), (by first | rfl | (simp; done) | (simp [*]; done)), H', ⟨by have := HJ6.out; have := HK2.out; first | omega | exact Nat.le_refl _⟩, ⟨by (with_reducible repeat (first | apply Kd.R_alloc | apply Kd.R_drewN | apply Kd.R_drew)); exact HO_6.out⟩, ⟨by (with_reducible repeat (first | apply Kd.R_alloc | apply Kd.R_drewN | apply Kd.R_drew)); exact HO_7.out⟩, ⟨by repeat (first | (with_reducible first | exact HB.out | apply below_alloc | apply pw_below_drewN | apply below_drew1) | exact HB.out)⟩⟩
                            · rw [if_neg c42] at H
                              have c42b0 : decide (125 < (rd t175 x9_2)) = false := decide_eq_false c42
                              clear c42
                              by_cases c44 : (rd l0 x9_2) = 10
                              · rw [if_pos c44] at H
                                have c44b0 : ((rd l0 x9_2) == 10) = true := beq_iff_eq.mpr c44
                                have c44b1 : ((rd l0 x9_2) != 10) = false := bne_eq_false_iff_eq.mpr c44
                                clear c44
                                by_cases c45 : (rd t175 x9_2) = (Go.bits .and .i64 a1 1)
                                · rw [if_pos c45] at H
                                  have c45b0 : ((rd t175 x9_2) == (Go.bits .and .i64 a1 1)) = true := beq_iff_eq.mpr c45
                                  have c45b1 : ((rd t175 x9_2) != (Go.bits .and .i64 a1 1)) = false := bne_eq_false_iff_eq.mpr c45
                                  clear c45
                                  by_cases c46 : x9_2 < (t176.length : Int)
                                  · rw [if_pos c46] at H
                                    have c46b0 : decide (x9_2 < (t176.length : Int)) = true := decide_eq_true c46
                                    clear c46
                                    by_cases c47 : (rd t176 x9_2) = (rd l0 x9_2)
                                    · rw [if_pos c47] at H
                                      have c47b0 : ((rd t176 x9_2) == (rd l0 x9_2)) = true := beq_iff_eq.mpr c47
                                      have c47b1 : ((rd t176 x9_2) != (rd l0 x9_2)) = false := bne_eq_false_iff_eq.mpr c47
                                      clear c47
                                      have H' := Aside0.mk H
                                      clear H
                                      obtain ⟨Ao48, co48, eo48⟩ := Kd.R_slice HO_6.out
                                      subst eo48
                                      have p184 : 0 ≤ (x9_2 : Int) := of_decide_eq_true (by first | (with_reducible assumption) | assumption)
                                      have q184 : x9_2 < (t175.length : Int) := of_decide_eq_true (by first | (with_reducible assumption) | assumption)
                                      obtain ⟨ad184, e184, hx184_0⟩ := Kd.at_int (Kd.R_reads' HO_6.out).2.2 x9_2 p184 q184
                                      cases e184
                                      replace p184 := eq_true p184
                                      replace q184 := eq_true q184
                                      have p191 : 0 ≤ (x9_2 : Int) := of_decide_eq_true (by first | (with_reducible assumption) | assumption)
                                      have q191 : x9_2 < (t175.length : Int) := of_decide_eq_true (by first | (with_reducible assumption) | assumption)
                                      obtain ⟨ad191, e191, hx191_0⟩ := Kd.at_int (Kd.R_reads' HO_6.out).2.2 x9_2 p191 q191
                                      obtain rfl : ad184 = ad191 := (by injection e191)
                                      replace p191 := eq_true p191
                                      replace q191 := eq_true q191
                                      have p192 : 0 ≤ (x9_2 : Int) := of_decide_eq_true (by first | (with_reducible assumption) | assumption)
                                      have q192 : x9_2 < (t175.length : Int) := of_decide_eq_true (by first | (with_reducible assumption) | assumption)
                                      obtain ⟨ad192, e192, hx192_0⟩ := Kd.at_int (Kd.R_reads' HO_6.out).2.2 x9_2 p192 q192
                                      obtain rfl : ad184 = ad192 := (by injection e192)
                                      replace p192 := eq_true p192
                                      replace q192 := eq_true q192
                                      have p193 : 0 ≤ (x9_2 : Int) := of_decide_eq_true (by first | (with_reducible assumption) | assumption)
                                      have q193 : x9_2 < (t175.length : Int) := of_decide_eq_true (by first | (with_reducible assumption) | assumption)
                                      obtain ⟨ad193, e193, hx193_0⟩ := Kd.at_int (Kd.R_reads' HO_6.out).2.2 x9_2 p193 q193
                                      obtain rfl : ad184 = ad193 := (by injection e193)
                                      replace p193 := eq_true p193
                                      replace q193 := eq_true q193
                                      obtain ⟨Ao49, co49, eo49⟩ := Kd.R_slice HO_7.out
                                      subst eo49
                                      have p194 : 0 ≤ (x9_2 : Int) := of_decide_eq_true (by first | (with_reducible assumption) | assumption)
                                      have q194 : x9_2 < (t176.length : Int) := of_decide_eq_true (by first | (with_reducible assumption) | assumption)
                                      obtain ⟨ad194, e194, hx194_0⟩ := Kd.at_int (Kd.R_reads' HO_7.out).2.2 x9_2 p194 q194
                                      cases e194
                                      replace p194 := eq_true p194
                                      replace q194 := eq_true q194
                                      have p195 : 0 ≤ (x9_2 : Int) := of_decide_eq_true (by first | (with_reducible assumption) | assumption)
                                      have q195 : x9_2 < (t176.length : Int) := of_decide_eq_true (by first | (with_reducible assumption) | assumption)
                                      obtain ⟨ad195, e195, hx195_0⟩ := Kd.at_int (Kd.R_reads' HO_7.out).2.2 x9_2 p195 q195
                                      obtain rfl : ad194 = ad195 := (by injection e195)
                                      replace p195 := eq_true p195
                                      replace q195 := eq_true q195
                                      go_wp2
                                      go_meet
                                      case rel => exact ⟨_, (false), (by first | rfl | (simp; done) | (simp [*]; done)), H', ⟨by have := HJ6.out; have := HK2.out; first | omega | exact Nat.le_refl _⟩, ⟨by (with_reducible repeat (first | apply Kd.R_alloc | apply Kd.R_drewN | apply Kd.R_drew)); exact HO_6.out⟩, ⟨by (with_reducible repeat (first | apply Kd.R_alloc | apply Kd.R_drewN | apply Kd.R_drew)); exact HO_7.out⟩, ⟨by repeat (first | (with_reducible first | exact HB.out | apply below_alloc | apply pw_below_drewN | apply below_drew1) | exact HB.out)⟩⟩
                                    · rw [if_neg c47] at H
                                      have c47b0 : ((rd t176 x9_2) == (rd l0 x9_2)) = false := beq_eq_false_iff_ne.mpr c47
                                      have c47b1 : ((rd t176 x9_2) != (rd l0 x9_2)) = true := bne_iff_ne.mpr c47
                                      have H' := Aside0.mk H
                                      clear H
                                      obtain ⟨Ao50, co50, eo50⟩ := Kd.R_slice HO_6.out
                                      subst eo50
                                      have p184 : 0 ≤ (x9_2 : Int) := of_decide_eq_true (by first | (with_reducible assumption) | assumption)
                                      have q184 : x9_2 < (t175.length : Int) := of_decide_eq_true (by first | (with_reducible assumption) | assumption)
                                      obtain ⟨ad184, e184, hx184_0⟩ := Kd.at_int (Kd.R_reads' HO_6.out).2.2 x9_2 p184 q184
                                      cases e184
                                      replace p184 := eq_true p184
                                      replace q184 := eq_true q184
                                      have p191 : 0 ≤ (x9_2 : Int) := of_decide_eq_true (by first | (with_reducible assumption) | assumption)
                                      have q191 : x9_2 < (t175.length : Int) := of_decide_eq_true (by first | (with_reducible assumption) | assumption)
                                      obtain ⟨ad191, e191, hx191_0⟩ := Kd.at_int (Kd.R_reads' HO_6.out).2.2 x9_2 p191 q191
                                      obtain rfl : ad184 = ad191 := (by injection e191)
                                      replace p191 := eq_true p191
                                      replace q191 := eq_true q191
                                      have p192 : 0 ≤ (x9_2 : Int) := of_decide_eq_true (by first | (with_reducible assumption) | assumption)
                                      have q192 : x9_2 < (t175.length : Int) := of_decide_eq_true (by first | (with_reducible assumption) | assumption)
                                      obtain ⟨ad192, e192, hx192_0⟩ := Kd.at_int (Kd.R_reads' HO_6.out).2.2 x9_2 p192 q192
                                      obtain rfl : ad184 = ad192 := (by injection e192)
                                      replace p192 := eq_true p192
                                      replace q192 := eq_true q192
                                      have p193 : 0 ≤ (x9_2 : Int) := of_decide_eq_true (by first | (with_reducible assumption) | assumption)
                                      have q193 : x9_2 < (t175.length : Int) := of_decide_eq_true (by first | (with_reducible assumption) | assumption)
                                      obtain ⟨ad193, e193, hx193_0⟩ := Kd.at_int (Kd.R_reads' HO_6.out).2.2 x9_2 p193 q193
                                      obtain rfl : ad184 = ad193 := (by injection e193)
                                      replace p193 := eq_true p193
                                      replace q193 := eq_true q193
                                      obtain ⟨Ao51, co51, eo51⟩ := Kd.R_slice HO_7.out
                                      subst eo51
                                      have p194 : 0 ≤ (x9_2 : Int) := of_decide_eq_true (by first | (with_reducible assumption) | assumption)
                                      have q194 : x9_2 < (t176.length : Int) := of_decide_eq_true (by first | (with_reducible assumption) | assumption)
                                      obtain ⟨ad194, e194, hx194_0⟩ := Kd.at_int (Kd.R_reads' HO_7.out).2.2 x9_2 p194 q194
                                      cases e194
                                      replace p194 := eq_true p194
                                      replace q194 := eq_true q194
                                      go_wp2
                                      go_meet
                                      case rel => exact ⟨_, (true), (by first | rfl | (simp; done) | (simp [*]; done)), H', ⟨by have := HJ6.out; have := HK2.out; first | omega | exact Nat.le_refl _⟩, ⟨by (with_reducible repeat (first | apply Kd.R_alloc | apply Kd.R_drewN | apply Kd.R_drew)); exact HO_6.out⟩, ⟨by (with_reducible repeat (first | apply Kd.R_alloc | apply Kd.R_drewN | apply Kd.R_drew)); exact HO_7.out⟩, ⟨by repeat (first | (with_reducible first | exact HB.out | apply below_alloc | apply pw_below_drewN | apply below_drew1) | exact HB.out)⟩⟩
                                  · rw [if_neg c46] at H
                                    exact absurd H (by simp)
                                · rw [if_neg c45] at H
                                  have c45b0 : ((rd t175 x9_2) == (Go.bits .and .i64 a1 1)) = false := beq_eq_false_iff_ne.mpr c45
                                  have c45b1 : ((rd t175 x9_2) != (Go.bits .and .i64 a1 1)) = true := bne_iff_ne.mpr c45
                                  have H' := Aside0.mk H
                                  clear H
                                  obtain ⟨Ao52, co52, eo52⟩ := Kd.R_slice HO_6.out
                                  subst eo52
                                  have p184 : 0 ≤ (x9_2 : Int) := of_decide_eq_true (by first | (with_reducible assumption) | assumption)
                                  have q184 : x9_2 < (t175.length : Int) := of_decide_eq_true (by first | (with_reducible assumption) | assumption)
                                  obtain ⟨ad184, e184, hx184_0⟩ := Kd.at_int (Kd.R_reads' HO_6.out).2.2 x9_2 p184 q184
                                  cases e184
                                  replace p184 := eq_true p184
                                  replace q184 := eq_true q184
                                  have p191 : 0 ≤ (x9_2 : Int) := of_decide_eq_true (by first | (with_reducible assumption) | assumption)
                                  have q191 : x9_2 < (t175.length : Int) := of_decide_eq_true (by first | (with_reducible assumption) | assumption)
                                  obtain ⟨ad191, e191, hx191_0⟩ := Kd.at_int (Kd.R_reads' HO_6.out).2.2 x9_2 p191 q191
                                  obtain rfl : ad184 = ad191 := (by injection e191)
                                  replace p191 := eq_true p191
                                  replace q191 := eq_true q191
                                  have p192 : 0 ≤ (x9_2 : Int) := of_decide_eq_true (by first | (with_reducible assumption) | assumption)
                                  have q192 : x9_2 < (t175.length : Int) := of_decide_eq_true (by first | (with_reducible assumption) | assumption)
                                  obtain ⟨ad192, e192, hx192_0⟩ := Kd.at_int (Kd.R_reads' HO_6.out).2.2 x9_2 p192 q192
                                  obtain rfl : ad184 = ad192 := (by injection e192)
                                  replace p192 := eq_true p192
                                  replace q192 := eq_true q192
                                  have p193 : 0 ≤ (x9_2 : Int) := of_decide_eq_true (by first | (with_reducible assumption) | assumption)
                                  have q193 : x9_2 < (t175.length : Int) := of_decide_eq_true (by first | (with_reducible assumption) | assumption)
                                  obtain ⟨ad193, e193, hx193_0⟩ := Kd.at_int (Kd.R_reads' HO_6.out).2.2 x9_2 p193 q193
                                  obtain rfl : ad184 = ad193 := (by injection e193)
                                  replace p193 := eq_true p193
                                  replace q193 := eq_true q193
                                  go_wp2
                                  go_meet
                                  case rel => exact ⟨_, (true), (by first | rfl | (simp; done) | (simp [*]; done)), H', ⟨by have := HJ6.out; have := HK2.out; first | omega | exact Nat.le_refl _⟩, ⟨by (with_reducible repeat (first | apply Kd.R_alloc | apply Kd.R_drewN | apply Kd.R_drew)); exact HO_6.out⟩, ⟨by (with_reducible repeat (first | apply Kd.R_alloc | apply Kd.R_drewN | apply Kd.R_drew)); exact HO_7.out⟩, ⟨by repeat (first | (with_reducible first | exact HB.out | apply below_alloc | apply pw_below_drewN | apply below_drew1) | exact HB.out)⟩⟩
                              · rw [if_neg c44] at H
                                have c44b0 : ((rd l0 x9_2) == 10) = false := beq_eq_false_iff_ne.mpr c44
                                have c44b1 : ((rd l0 x9_2) != 10) = true := bne_iff_ne.mpr c44
                                by_cases c53 : x9_2 < (t176.length : Int)
                                · rw [if_pos c53] at H
                                  have c53b0 : decide (x9_2 < (t176.length : Int)) = true := decide_eq_true c53
                                  clear c53
                                  by_cases c54 : (rd t176 x9_2) = (rd l0 x9_2)
                                  · rw [if_pos c54] at H
                                    have c54b0 : ((rd t176 x9_2) == (rd l0 x9_2)) = true := beq_iff_eq.mpr c54
                                    have c54b1 : ((rd t176 x9_2) != (rd l0 x9_2)) = false := bne_eq_false_iff_eq.mpr c54
                                    clear c54
                                    have H' := Aside0.mk H
                                    clear H
                                    obtain ⟨Ao55, co55, eo55⟩ := Kd.R_slice HO_6.out
                                    subst eo55
                                    have p184 : 0 ≤ (x9_2 : Int) := of_decide_eq_true (by first | (with_reducible assumption) | assumption)
                                    have q184 : x9_2 < (t175.length : Int) := of_decide_eq_true (by first | (with_reducible assumption) | assumption)
                                    obtain ⟨ad184, e184, hx184_0⟩ := Kd.at_int (Kd.R_reads' HO_6.out).2.2 x9_2 p184 q184
                                    cases e184
                                    replace p184 := eq_true p184
                                    replace q184 := eq_true q184
                                    have p191 : 0 ≤ (x9_2 : Int) := of_decide_eq_true (by first | (with_reducible assumption) | assumption)
                                    have q191 : x9_2 < (t175.length : Int) := of_decide_eq_true (by first | (with_reducible assumption) | assumption)
                                    obtain ⟨ad191, e191, hx191_0⟩ := Kd.at_int (Kd.R_reads' HO_6.out).2.2 x9_2 p191 q191
                                    obtain rfl : ad184 = ad191 := (by injection e191)
                                    replace p191 := eq_true p191
                                    replace q191 := eq_true q191
                                    have p192 : 0 ≤ (x9_2 : Int) := of_decide_eq_true (by first | (with_reducible assumption) | assumption)
                                    have q192 : x9_2 < (t175.length : Int) := of_decide_eq_true (by first | (with_reducible assumption) | assumption)
                                    obtain ⟨ad192, e192, hx192_0⟩ := Kd.at_int (Kd.R_reads' HO_6.out).2.2 x9_2 p192 q192
                                    obtain rfl : ad184 = ad192 := (by injection e192)
                                    replace p192 := eq_true p192
                                    replace q192 := eq_true q192
                                    obtain ⟨Ao56, co56, eo56⟩ := Kd.R_slice HO_7.out
                                    subst eo56
                                    have p196 : 0 ≤ (x9_2 : Int) := of_decide_eq_true (by first | (with_reducible assumption) | assumption)
                                    have q196 : x9_2 < (t176.length : Int) := of_decide_eq_true (by first | (with_reducible assumption) | assumption)
                                    obtain ⟨ad196, e196, hx196_0⟩ := Kd.at_int (Kd.R_reads' HO_7.out).2.2 x9_2 p196 q196
                                    cases e196
                                    replace p196 := eq_true p196
                                    replace q196 := eq_true q196
                                    go_wp2
                                    go_meet
                                    case rel => exact ⟨_, (false), (by first | rfl | (simp; done) | (simp [*]; done)), H', ⟨by have := HJ6.out; have := HK2.out; first | omega | exact Nat.le_refl _⟩, ⟨by (with_reducible repeat (first | apply Kd.R_alloc | apply Kd.R_drewN | apply Kd.R_drew)); exact HO_6.out⟩, ⟨by (with_reducible repeat (first | apply Kd.R_alloc | apply Kd.R_drewN | apply Kd.R_drew)); exact HO_7.out⟩, ⟨by repeat (first | (with_reducible first | exact HB.out | apply below_alloc | apply pw_below_drewN | apply below_drew1) | exact HB.out)⟩⟩
                                  · rw [if_neg c54] at H
                                    have c54b0 : ((rd t176 x9_2) == (rd l0 x9_2)) = false := beq_eq_false_iff_ne.mpr c54
                                    have c54b1 : ((rd t176 x9_2) != (rd l0 x9_2)) = true := bne_iff_ne.mpr c54
                                    by_cases c57 : (rd t176 x9_2) = 0
                                    · rw [if_pos c57] at H
                                      have c57b0 : ((rd t176 x9_2) == 0) = true := beq_iff_eq.mpr c57
                                      have c57b1 : ((rd t176 x9_2) != 0) = false := bne_eq_false_iff_eq.mpr c57
                                      clear c57
                                      have H' := Aside0.mk H
                                      clear H
                                      obtain ⟨Ao58, co58, eo58⟩ := Kd.R_slice HO_6.out
                                      subst eo58
                                      have p184 : 0 ≤ (x9_2 : Int) := of_decide_eq_true (by first | (with_reducible assumption) | assumption)
                                      have q184 : x9_2 < (t175.length : Int) := of_decide_eq_true (by first | (with_reducible assumption) | assumption)
                                      obtain ⟨ad184, e184, hx184_0⟩ := Kd.at_int (Kd.R_reads' HO_6.out).2.2 x9_2 p184 q184
                                      cases e184
                                      replace p184 := eq_true p184
                                      replace q184 := eq_true q184
                                      have p191 : 0 ≤ (x9_2 : Int) := of_decide_eq_true (by first | (with_reducible assumption) | assumption)
                                      have q191 : x9_2 < (t175.length : Int) := of_decide_eq_true (by first | (with_reducible assumption) | assumption)
                                      obtain ⟨ad191, e191, hx191_0⟩ := Kd.at_int (Kd.R_reads' HO_6.out).2.2 x9_2 p191 q191
                                      obtain rfl : ad184 = ad191 := (by injection e191)
                                      replace p191 := eq_true p191
                                      replace q191 := eq_true q191
                                      have p192 : 0 ≤ (x9_2 : Int) := of_decide_eq_true (by first | (with_reducible assumption) | assumption)
                                      have q192 : x9_2 < (t175.length : Int) := of_decide_eq_true (by first | (with_reducible assumption) | assumption)
                                      obtain ⟨ad192, e192, hx192_0⟩ := Kd.at_int (Kd.R_reads' HO_6.out).2.2 x9_2 p192 q192
                                      obtain rfl : ad184 = ad192 := (by injection e192)
                                      replace p192 := eq_true p192
                                      replace q192 := eq_true q192
                                      obtain ⟨Ao59, co59, eo59⟩ := Kd.R_slice HO_7.out
                                      subst eo59
                                      have p196 : 0 ≤ (x9_2 : Int) := of_decide_eq_true (by first | (with_reducible assumption) | assumption)
                                      have q196 : x9_2 < (t176.length : Int) := of_decide_eq_true (by first | (with_reducible assumption) | assumption)
                                      obtain ⟨ad196, e196, hx196_0⟩ := Kd.at_int (Kd.R_reads' HO_7.out).2.2 x9_2 p196 q196
                                      cases e196
                                      replace p196 := eq_true p196
                                      replace q196 := eq_true q196
                                      have p197 : 0 ≤ (x9_2 : Int) := of_decide_eq_true (by first | (with_reducible assumption) | assumption)
                                      have q197 : x9_2 < (t176.length : Int) := of_decide_eq_true (by first | (with_reducible assumption) | assumption)
                                      obtain ⟨ad197, e197, hx197_0⟩ := Kd.at_int (Kd.R_reads' HO_7.out).2.2 x9_2 p197 q197
                                      obtain rfl : ad196 = ad197 := (by injection e197)
                                      replace p197 := eq_true p197
                                      replace q197 := eq_true q197
                                      go_wp2
                                      go_meet
                                      case rel => exact ⟨_, (false), (by first | rfl | (simp; done) | (simp [*]; done)), H', ⟨by have := HJ6.out; have := HK2.out; first | omega | exact Nat.le_refl _⟩, ⟨by (with_reducible repeat (first | apply Kd.R_alloc | apply Kd.R_drewN | apply Kd.R_drew)); exact HO_6.out⟩, ⟨by (with_reducible repeat (first | apply Kd.R_alloc | apply Kd.R_drewN | apply Kd.R_drew)); exact HO_7.out⟩, ⟨by repeat (first | (with_reducible first | exact HB.out | apply below_alloc | apply pw_below_drewN | apply below_drew1) | exact HB.out)⟩⟩
                                    · rw [if_neg c57] at H
                                      have c57b0 : ((rd t176 x9_2) == 0) = false := beq_eq_false_iff_ne.mpr c57
                                      have c57b1 : ((rd t176 x9_2) != 0) = true := bne_iff_ne.mpr c57
                                      have H' := Aside0.mk H
                                      clear H
                                      obtain ⟨Ao60, co60, eo60⟩ := Kd.R_slice HO_6.out
                                      subst eo60
                                      have p184 : 0 ≤ (x9_2 : Int) := of_decide_eq_true (by first | (with_reducible assumption) | assumption)
                                      have q184 : x9_2 < (t175.length : Int) := of_decide_eq_true (by first | (with_reducible assumption) | assumption)
                                      obtain ⟨ad184, e184, hx184_0⟩ := Kd.at_int (Kd.R_reads' HO_6.out).2.2 x9_2 p184 q184
                                      cases e184
                                      replace p184 := eq_true p184
                                      replace q184 := eq_true q184
                                      have p191 : 0 ≤ (x9_2 : Int) := of_decide_eq_true (by first | (with_reducible assumption) | assumption)
                                      have q191 : x9_2 < (t175.length : Int) := of_decide_eq_true (by first | (with_reducible assumption) | assumption)
                                      obtain ⟨ad191, e191, hx191_0⟩ := Kd.at_int (Kd.R_reads' HO_6.out).2.2 x9_2 p191 q191
                                      obtain rfl : ad184 = ad191 := (by injection e191)
                                      replace p191 := eq_true p191
                                      replace q191 := eq_true q191
                                      have p192 : 0 ≤ (x9_2 : Int) := of_decide_eq_true (by first | (with_reducible assumption) | assumption)
                                      have q192 : x9_2 < (t175.length : Int) := of_decide_eq_true (by first | (with_reducible assumption) | assumption)
                                      obtain ⟨ad192, e192, hx192_0⟩ := Kd.at_int (Kd.R_reads' HO_6.out).2.2 x9_2 p192 q192
                                      obtain rfl : ad184 = ad192 := (by injection e192)
                                      replace p192 := eq_true p192
                                      replace q192 := eq_true q192
                                      obtain ⟨Ao61, co61, eo61⟩ := Kd.R_slice HO_7.out
                                      subst eo61
                                      have p196 : 0 ≤ (x9_2 : Int) := of_decide_eq_true (by first | (with_reducible assumption) | assumption)
                                      have q196 : x9_2 < (t176.length : Int) := of_decide_eq_true (by first | (with_reducible assumption) | assumption)
                                      obtain ⟨ad196, e196, hx196_0⟩ := Kd.at_int (Kd.R_reads' HO_7.out).2.2 x9_2 p196 q196
                                      cases e196
                                      replace p196 := eq_true p196
                                      replace q196 := eq_true q196
                                      have p197 : 0 ≤ (x9_2 : Int) := of_decide_eq_true (by first | (with_reducible assumption) | assumption)
                                      have q197 : x9_2 < (t176.length : Int) := of_decide_eq_true (by first | (with_reducible assumption) | assumption)
                                      obtain ⟨ad197, e197, hx197_0⟩ := Kd.at_int (Kd.R_reads' HO_7.out).2.2 x9_2 p197 q197
                                      obtain rfl : ad196 = ad197 := (by injection e197)
                                      replace p197 := eq_true p197
                                      replace q197 := eq_true q197
                                      have p198 : 0 ≤ (x9_2 : Int) := of_decide_eq_true (by first | (with_reducible assumption) | assumption)
                                      have q198 : x9_2 < (t176.length : Int) := of_decide_eq_true (by first | (with_reducible assumption) | assumption)
                                      obtain ⟨ad198, e198, hx198_0⟩ := Kd.at_int (Kd.R_reads' HO_7.out).2.2 x9_2 p198 q198
                                      obtain rfl : ad196 = ad198 := (by injection e198)
                                      replace p198 := eq_true p198
                                      replace q198 := eq_true q198
                                      go_wp2
                                      go_meet
                                      case rel => exact ⟨_, (((rd t176 x9_2) != 1)), (by first | rfl | (simp; done) | (simp [*]; done)), H', ⟨by have := HJ6.out; have := HK2.out; first | omega | exact Nat.le_refl _⟩, ⟨by (with_reducible repeat (first | apply Kd.R_alloc | apply Kd.R_drewN | apply Kd.R_drew)); exact HO_6.out⟩, ⟨by (with_reducible repeat (first | apply Kd.R_alloc | apply Kd.R_drewN | apply Kd.R_drew)); exact HO_7.out⟩, ⟨by repeat (first | (with_reducible first | exact HB.out | apply below_alloc | apply pw_below_drewN | apply below_drew1) | exact HB.out)⟩⟩
                                · rw [if_neg c53] at H
                                  exact absurd H (by simp)
                    · rw [if_neg c18] at H
                      exact absurd H (by simp)
                  case rest =>
                    clear HC17
                    try clear c1
                    try clear p1
                    try clear q1
                    try clear hx1
                    try clear c2
                    try clear p2
                    try clear c3
                    try clear c4
                    try clear c5
                    try clear c18
                    try clear c18b0
                    try clear p18
                    try clear q18
                    try clear hx18
                    try clear c19
                    try clear c19b0
                    try clear c19b1
                    try clear c19b2
                    try clear p19
                    try clear q19
                    try clear hx19
                    try clear c21
                    try clear c22
                    try clear c22b0
                    try clear c22b1
                    try clear c23
                    try clear c23b0
                    try clear c23b1
                    try clear c24
                    try clear c24b0
                    try clear c25
                    try clear c25b0
                    try clear c25b1
                    try clear c31
                    try clear c31b0
                    try clear c32
                    try clear c32b0
                    try clear c32b1
                    try clear c35
                    try clear c35b0
                    try clear c35b1
                    try clear c40
                    try clear c40b0
                    try clear c42
                    try clear c42b0
                    try clear c44
                    try clear c44b0
                    try clear c44b1
                    try clear c45
                    try clear c45b0
                    try clear c45b1
                    try clear c46
                    try clear c46b0
                    try clear c47
                    try clear c47b0
                    try clear c47b1
                    try clear c53
                    try clear c53b0
                    try clear c54
                    try clear c54b0
                    try clear c54b1
                    try clear c57
                    try clear c57b0
                    try clear c57b1
                    try clear hx184_0
                    try clear hx185_0
                    try clear hx186_0
                    try clear hx187_0
                    try clear hx188_0
                    try clear hx189_0
                    try clear hx190_0
                    try clear hx191_0
                    try clear hx192_0
                    try clear hx193_0
                    try clear hx194_0
                    try clear hx195_0
                    try clear hx196_0
                    try clear hx197_0
                    try clear hx198_0
                    try clear p184
                    try clear p185
                    try clear p186
                    try clear p187
                    try clear p188
                    try clear p189
                    try clear p190
                    try clear p191
                    try clear p192
                    try clear p193
                    try clear p194
                    try clear p195
                    try clear p196
                    try clear p197
                    try clear p198
                    try clear q184
                    try clear q185
                    try clear q186
                    try clear q187
                    try clear q188
                    try clear q189
                    try clear q190
                    try clear q191
                    try clear q192
                    try clear q193
                    try clear q194
                    try clear q195
                    try clear q196
                    try clear q197
                    try clear q198
                    obtain ⟨kq, x115_16, rfl, HA, HJ16, HO_6, HO_7, HB⟩ := hcut
                    cases kq with
                    | zero => exact absurd HA.out (by simp [parquetrylaw11_LevelDeep.j2])
                    | succ kj16 =>
                      have H := HA.out
                      clear HA
                      simp only [parquetrylaw11_LevelDeep.j2] at H
                      by_cases c62 : x115_16 = true
                      · subst c62
                        have H1 : (some false) = some r := by rw [if_pos rfl] at H; exact H
                        clear H
                        have H := H1
                        clear H1
                        obtain rfl := Option.some.inj H
                        go_wp2
                        go_ret
                        exact ⟨by first | rfl | (simp [errW_none, errW_some] <;> rfl) | (simp [*, errW_none, errW_some] <;> rfl), by repeat (first | (with_reducible first | exact HB.out | apply below_alloc | apply pw_below_drewN | apply below_drew1) | exact HB.out)⟩
                      · replace c62 := Bool.eq_false_iff.mpr c62
                        subst c62
                        have H1 : (if x8_2 = true then ((parquetrylaw11_plain.f (rd l0 x9_2)).bind fun t199 => (if t199 = true then (if t183 = true then (parquetrylaw11_LevelDeep.l0 kj16 l0 (Go.bits .and .i64 a1 1) t175 t176 t199 (wrap64 (x9_2 + 1))) else (if 0 ≤ x9_2 then (if x9_2 < (t175.length : Int) then (if (rd t175 x9_2) = (Go.bits .and .i64 a1 1) then (if x9_2 < (t176.length : Int) then (if (rd t176 x9_2) = (rd l0 x9_2) then (parquetrylaw11_LevelDeep.l0 kj16 l0 (Go.bits .and .i64 a1 1) t175 t176 t199 (wrap64 (x9_2 + 1))) else (some false)) else (none)) else (some false)) else (none)) else (none))) else (parquetrylaw11_LevelDeep.l0 kj16 l0 (Go.bits .and .i64 a1 1) t175 t176 t199 (wrap64 (x9_2 + 1))))) else (parquetrylaw11_LevelDeep.l0 kj16 l0 (Go.bits .and .i64 a1 1) t175 t176 false (wrap64 (x9_2 + 1)))) = some r := by rw [if_neg (show ¬ (false = true) by decide)] at H; exact H
                        clear H
                        have H := H1
                        clear H1
                        by_cases c63 : x8_2 = true
                        · subst c63
                          have H1 : ((parquetrylaw11_plain.f (rd l0 x9_2)).bind fun t199 => (if t199 = true then (if t183 = true then (parquetrylaw11_LevelDeep.l0 kj16 l0 (Go.bits .and .i64 a1 1) t175 t176 t199 (wrap64 (x9_2 + 1))) else (if 0 ≤ x9_2 then (if x9_2 < (t175.length : Int) then (if (rd t175 x9_2) = (Go.bits .and .i64 a1 1) then (if x9_2 < (t176.length : Int) then (if (rd t176 x9_2) = (rd l0 x9_2) then (parquetrylaw11_LevelDeep.l0 kj16 l0 (Go.bits .and .i64 a1 1) t175 t176 t199 (wrap64 (x9_2 + 1))) else (some false)) else (none)) else (some false)) else (none)) else (none))) else (parquetrylaw11_LevelDeep.l0 kj16 l0 (Go.bits .and .i64 a1 1) t175 t176 t199 (wrap64 (x9_2 + 1))))) = some r := by rw [if_pos rfl] at H; exact H
                          clear H
                          have H := H1
                          clear H1
                          replace H := Option.bind_eq_some_iff.mp H
                          obtain ⟨t199, A640, H⟩ := H
                          replace H : (if t199 = true then (if t183 = true then (parquetrylaw11_LevelDeep.l0 kj16 l0 (Go.bits .and .i64 a1 1) t175 t176 t199 (wrap64 (x9_2 + 1))) else (if 0 ≤ x9_2 then (if x9_2 < (t175.length : Int) then (if (rd t175 x9_2) = (Go.bits .and .i64 a1 1) then (if x9_2 < (t176.length : Int) then (if (rd t176 x9_2) = (rd l0 x9_2) then (parquetrylaw11_LevelDeep.l0 kj16 l0 (Go.bits .and .i64 a1 1) t175 t176 t199 (wrap64 (x9_2 + 1))) else (some false)) else (none)) else (some false)) else (none)) else (none))) else (parquetrylaw11_LevelDeep.l0 kj16 l0 (Go.bits .and .i64 a1 1) t175 t176 t199 (wrap64 (x9_2 + 1)))) = some r := H
                          have A64 := Aside0.mk A640
                          clear A640
                          by_cases c65 : t199 = true
                          · subst c65
                            have H1 : (if t183 = true then (parquetrylaw11_LevelDeep.l0 kj16 l0 (Go.bits .and .i64 a1 1) t175 t176 true (wrap64 (x9_2 + 1))) else (if 0 ≤ x9_2 then (if x9_2 < (t175.length : Int) then (if (rd t175 x9_2) = (Go.bits .and .i64 a1 1) then (if x9_2 < (t176.length : Int) then (if (rd t176 x9_2) = (rd l0 x9_2) then (parquetrylaw11_LevelDeep.l0 kj16 l0 (Go.bits .and .i64 a1 1) t175 t176 true (wrap64 (x9_2 + 1))) else (some false)) else (none)) else (some false)) else (none)) else (none))) = some r := by rw [if_pos rfl] at H; exact H
                            clear H
                            have H := H1
                            clear H1
                            by_cases c66 : t183 = true
                            · subst c66
                              have H1 : (parquetrylaw11_LevelDeep.l0 kj16 l0 (Go.bits .and .i64 a1 1) t175 t176 true (wrap64 (x9_2 + 1))) = some r := by rw [if_pos rfl] at H; exact H
                              clear H
                              have H := H1
                              clear H1
                              have H' := Aside0.mk H
                              clear H
                              go_wp2_with (first | (go_at_call 30; (with_reducible refine (parquetrylaw11_plain.calls (rd l0 x9_2) true _ A64.out).mono ?_); rintro e w' ⟨rfl, ⟨nd, rfl⟩⟩))
                              go_roundg kj16
                              case measure => have := HJ6.out; have := HK2.out; have := HJ16.out; omega
                              case rel => exact ⟨(true), (wrap64 (x9_2 + 1)), (by first | rfl | (simp; done) | (simp [*]; done)), (by first | rfl | (simp; done) | (simp [*]; done)), H', ⟨by have := HJ6.out; have := HK2.out; have := HJ16.out; omega⟩, ⟨by (with_reducible repeat (first | apply Kd.R_alloc | apply Kd.R_drewN | apply Kd.R_drew)); exact HO_6.out⟩, ⟨by (with_reducible repeat (first | apply Kd.R_alloc | apply Kd.R_drewN | apply Kd.R_drew)); exact HO_7.out⟩, ⟨by repeat (first | (with_reducible first | exact HB.out | apply below_alloc | apply pw_below_drewN | apply below_drew1) | exact HB.out)⟩⟩
                            · replace c66 := Bool.eq_false_iff.mpr c66
                              subst c66
                              have H1 : (if 0 ≤ x9_2 then (if x9_2 < (t175.length : Int) then (if (rd t175 x9_2) = (Go.bits .and .i64 a1 1) then (if x9_2 < (t176.length : Int) then (if (rd t176 x9_2) = (rd l0 x9_2) then (parquetrylaw11_LevelDeep.l0 kj16 l0 (Go.bits .and .i64 a1 1) t175 t176 true (wrap64 (x9_2 + 1))) else (some false)) else (none)) else (some false)) else (none)) else (none)) = some r := by rw [if_neg (show ¬ (false = true) by decide)] at H; exact H
                              clear H
                              have H := H1
                              clear H1
                              by_cases c67 : 0 ≤ x9_2
                              · rw [if_pos c67] at H
                                have c67b0 : decide (0 ≤ x9_2) = true := decide_eq_true c67
                                clear c67
                                by_cases c68 : x9_2 < (t175.length : Int)
                                · rw [if_pos c68] at H
                                  have c68b0 : decide (x9_2 < (t175.length : Int)) = true := decide_eq_true c68
                                  clear c68
                                  by_cases c69 : (rd t175 x9_2) = (Go.bits .and .i64 a1 1)
                                  · rw [if_pos c69] at H
                                    have c69b0 : ((rd t175 x9_2) == (Go.bits .and .i64 a1 1)) = true := beq_iff_eq.mpr c69
                                    have c69b1 : ((rd t175 x9_2) != (Go.bits .and .i64 a1 1)) = false := bne_eq_false_iff_eq.mpr c69
                                    clear c69
                                    by_cases c70 : x9_2 < (t176.length : Int)
                                    · rw [if_pos c70] at H
                                      have c70b0 : decide (x9_2 < (t176.length : Int)) = true := decide_eq_true c70
                                      clear c70
                                      by_cases c71 : (rd t176 x9_2) = (rd l0 x9_2)
                                      · rw [if_pos c71] at H
                                        have c71b0 : ((rd t176 x9_2) == (rd l0 x9_2)) = true := beq_iff_eq.mpr c71
                                        have c71b1 : ((rd t176 x9_2) != (rd l0 x9_2)) = false := bne_eq_false_iff_eq.mpr c71
                                        clear c71
                                        have H' := Aside0.mk H
                                        clear H
                                        go_wp2_with (first | (go_at_call 30; (with_reducible refine (parquetrylaw11_plain.calls (rd l0 x9_2) true _ A64.out).mono ?_); rintro e w' ⟨rfl, ⟨nd, rfl⟩⟩; obtain ⟨Ao72, co72, eo72⟩ := Kd.R_slice HO_6.out; subst eo72; have p200 : 0 ≤ (x9_2 : Int) := of_decide_eq_true (by first | (with_reducible assumption) | assumption); have q200 : x9_2 < (t175.length : Int) := of_decide_eq_true (by first | (with_reducible assumption) | assumption); obtain ⟨ad200, e200, hx200_0⟩ := Kd.at_int (Kd.R_reads' HO_6.out).2.2 x9_2 p200 q200; cases e200; replace p200 := eq_true p200; replace q200 := eq_true q200; obtain ⟨Ao73, co73, eo73⟩ := Kd.R_slice HO_7.out; subst eo73; have p201 : 0 ≤ (x9_2 : Int) := of_decide_eq_true (by first | (with_reducible assumption) | assumption); have q201 : x9_2 < (t176.length : Int) := of_decide_eq_true (by first | (with_reducible assumption) | assumption); obtain ⟨ad201, e201, hx201_0⟩ := Kd.at_int (Kd.R_reads' HO_7.out).2.2 x9_2 p201 q201; cases e201; replace p201 := eq_true p201; replace q201 := eq_true q201))
                                        go_roundg kj16
                                        case measure => have := HJ6.out; have := HK2.out; have := HJ16.out; omega
                                        case rel => exact ⟨(true), (wrap64 (x9_2 + 1)), (by first | rfl | (simp; done) | (simp [*]; done)), (by first | rfl | (simp; done) | (simp [*]; done)), H', ⟨by have := HJ6.out; have := HK2.out; have := HJ16.out; omega⟩, ⟨by (with_reducible repeat (first | apply Kd.R_alloc | apply Kd.R_drewN | apply Kd.R_drew)); exact HO_6.out⟩, ⟨by (with_reducible repeat (first | apply Kd.R_alloc | apply Kd.R_drewN | apply Kd.R_drew)); exact HO_7.out⟩, ⟨by repeat (first | (with_reducible first | exact HB.out | apply below_alloc | apply pw_below_drewN | apply below_drew1) | exact HB.out)⟩⟩
                                      · rw [if_neg c71] at H
                                        have c71b0 : ((rd t176 x9_2) == (rd l0 x9_2)) = false := beq_eq_false_iff_ne.mpr c71
                                        have c71b1 : ((rd t176 x9_2) != (rd l0 x9_2)) = true := bne_iff_ne.mpr c71
                                        obtain rfl := Option.some.inj H
                                        go_wp2_with (first | (go_at_call 30; (with_reducible refine (parquetrylaw11_plain.calls (rd l0 x9_2) true _ A64.out).mono ?_); rintro e w' ⟨rfl, ⟨nd, rfl⟩⟩; obtain ⟨Ao74, co74, eo74⟩ := Kd.R_slice HO_6.out; subst eo74; have p200 : 0 ≤ (x9_2 : Int) := of_decide_eq_true (by first | (with_reducible assumption) | assumption); have q200 : x9_2 < (t175.length : Int) := of_decide_eq_true (by first | (with_reducible assumption) | assumption); obtain ⟨ad200, e200, hx200_0⟩ := Kd.at_int (Kd.R_reads' HO_6.out).2.2 x9_2 p200 q200; cases e200; replace p200 := eq_true p200; replace q200 := eq_true q200; obtain ⟨Ao75, co75, eo75⟩ := Kd.R_slice HO_7.out; subst eo75; have p201 : 0 ≤ (x9_2 : Int) := of_decide_eq_true (by first | (with_reducible assumption) | assumption); have q201 : x9_2 < (t176.length : Int) := of_decide_eq_true (by first | (with_reducible assumption) | assumption); obtain ⟨ad201, e201, hx201_0⟩ := Kd.at_int (Kd.R_reads' HO_7.out).2.2 x9_2 p201 q201; cases e201; replace p201 := eq_true p201; replace q201 := eq_true q201))
                                        go_ret
                                        exact ⟨by first | rfl | (simp [errW_none, errW_some] <;> rfl) | (simp [*, errW_none, errW_some] <;> rfl), by repeat (first | (with_reducible first | exact HB.out | apply below_alloc | apply pw_below_drewN | apply below_drew1) | exact HB.out)⟩
                                    · rw [if_neg c70] at H
                                      exact absurd H (by simp)
                                  · rw [if_neg c69] at H
                                    have c69b0 : ((rd t175 x9_2) == (Go.bits .and .i64 a1 1)) = false := beq_eq_false_iff_ne.mpr c69
                                    have c69b1 : ((rd t175 x9_2) != (Go.bits .and .i64 a1 1)) = true := bne_iff_ne.mpr c69
                                    obtain rfl := Option.some.inj H
                                    go_wp2_with (first | (go_at_call 30; (with_reducible refine (parquetrylaw11_plain.calls (rd l0 x9_2) true _ A64.out).mono ?_); rintro e w' ⟨rfl, ⟨nd, rfl⟩⟩; obtain ⟨Ao76, co76, eo76⟩ := Kd.R_slice HO_6.out; subst eo76; have p200 : 0 ≤ (x9_2 : Int) := of_decide_eq_true (by first | (with_reducible assumption) | assumption); have q200 : x9_2 < (t175.length : Int) := of_decide_eq_true (by first | (with_reducible assumption) | assumption); obtain ⟨ad200, e200, hx200_0⟩ := Kd.at_int (Kd.R_reads' HO_6.out).2.2 x9_2 p200 q200; cases e200; replace p200 := eq_true p200; replace q200 := eq_true q200))
                                    go_ret
                                    exact ⟨by first | rfl | (simp [errW_none, errW_some] <;> rfl) | (simp [*, errW_none, errW_some] <;> rfl), by repeat (first | (with_reducible first | exact HB.out | apply below_alloc | apply pw_below_drewN | apply below_drew1) | exact HB.out)⟩
                                · rw [if_neg c68] at H
                                  exact absurd H (by simp)
                              · rw [if_neg c67] at H
                                exact absurd H (by simp)
                          · replace c65 := Bool.eq_false_iff.mpr c65
                            subst c65
                            have H1 : (parquetrylaw11_LevelDeep.l0 kj16 l0 (Go.bits .and .i64 a1 1) t175 t176 false (wrap64 (x9_2 + 1))) = some r := by rw [if_neg (show ¬ (false = true) by decide)] at H; exact H
                            clear H
                            have H := H1
                            clear H1
                            have H' := Aside0.mk H
                            clear H
                            go_wp2_with (first | (go_at_call 30; (with_reducible refine (parquetrylaw11_plain.calls (rd l0 x9_2) false _ A64.out).mono ?_); rintro e w' ⟨rfl, ⟨nd, rfl⟩⟩))
                            go_roundg kj16
                            case measure => have := HJ6.out; have := HK2.out; have := HJ16.out; omega
                            case rel => exact ⟨(false), (wrap64 (x9_2 + 1)), (by first | rfl | (simp; done) | (simp [*]; done)), (by first | rfl | (simp; done) | (simp [*]; done)), H', ⟨by have := HJ6.out; have := HK2.out; have := HJ16.out; omega⟩, ⟨by (with_reducible repeat (first | apply Kd.R_alloc | apply Kd.R_drewN | apply Kd.R_drew)); exact HO_6.out⟩, ⟨by (with_reducible repeat (first | apply Kd.R_alloc | apply Kd.R_drewN | apply Kd.R_drew)); exact HO_7.out⟩, ⟨by repeat (first | (with_reducible first | exact HB.out | apply below_alloc | apply pw_below_drewN | apply below_drew1) | exact HB.out)⟩⟩
                        · replace c63 := Bool.eq_false_iff.mpr c63
                          subst c63
                          have H1 : (parquetrylaw11_LevelDeep.l0 kj16 l0 (Go.bits .and .i64 a1 1) t175 t176 false (wrap64 (x9_2 + 1))) = some r := by rw [if_neg (show ¬ (false = true) by decide)] at H; exact H
                          clear H
                          have H := H1
                          clear H1
                          have H' := Aside0.mk H
                          clear H
                          go_wp2
                          go_roundg kj16
                          case measure => have := HJ6.out; have := HK2.out; have := HJ16.out; omega
                          case rel => exact ⟨(false), (wrap64 (x9_2 + 1)), (by first | rfl | (simp; done) | (simp [*]; done)), (by first | rfl | (simp; done) | (simp [*]; done)), H', ⟨by have := HJ6.out; have := HK2.out; have := HJ16.out; omega⟩, ⟨by (with_reducible repeat (first | apply Kd.R_alloc | apply Kd.R_drewN | apply Kd.R_drew)); exact HO_6.out⟩, ⟨by (with_reducible repeat (first | apply Kd.R_alloc | apply Kd.R_drewN | apply Kd.R_drew)); exact HO_7.out⟩, ⟨by repeat (first | (with_reducible first | exact HB.out | apply below_alloc | apply pw_below_drewN | apply below_drew1) | exact HB.out)⟩⟩
                · rw [if_neg c15] at H
                  exact absurd H (by simp)
              · rw [if_neg c14] at H
                have c14b0 : decide (x9_2 < (l0.length : Int)) = false := decide_eq_false c14
                clear c14
                replace H := Option.bind_eq_some_iff.mp H
                obtain ⟨t181, A770, H⟩ := H
                replace H : (some t181) = some r := H
                have A77 := Aside0.mk A770
                clear A770
                obtain rfl := Option.some.inj H
                go_wp2_with (first | ((with_reducible refine gate_callee (f := 25) rfl ?_); refine goesL_ (some 142) rfl rfl Try.func25 (by kernel_rfl) rfl #[] rfl (by (try simp only [List.map_toArray, List.map_cons, List.map_nil]); first | done | rfl | (simp only [List.length_drop, List.length_take]; rfl)) ?_; (with_reducible refine (parquetrylaw11_awake.calls k2  t181 _ A77.out).mono ?_); rintro e w78 ⟨rfl, hb⟩; refine ⟨_, rfl, ?_⟩; have n0_ := Aside0.mk (Kd.R_below (by (with_reducible repeat (first | apply Kd.R_alloc | apply Kd.R_drewN | apply Kd.R_drew)); exact HO_6.out) hb); have n1_ := Aside0.mk (Kd.R_below (by (with_reducible repeat (first | apply Kd.R_alloc | apply Kd.R_drewN | apply Kd.R_drew)); exact HO_7.out) hb); have n2_ := Aside0.mk (below_step (by repeat (first | (with_reducible first | exact HB.out | apply below_alloc | apply pw_below_drewN | apply below_drew1) | exact HB.out)) hb); clear HO_6; clear HO_7; clear HB; have HO_6 := n0_; have HO_7 := n1_; have HB := n2_; clear n0_ n1_ n2_; (try clear hb); (try clear hb2); (try clear hk); (try clear hi)))
                go_ret
                exact ⟨by first | rfl | (simp [errW_none, errW_some] <;> rfl) | (simp [*, errW_none, errW_some] <;> rfl), by repeat (first | (with_reducible first | exact HB.out | apply below_alloc | apply pw_below_drewN | apply below_drew1) | exact HB.out)⟩

/-- THE ONE PURE STATEMENT of parquetrylaw11_LevelDeep: yours. -/
def parquetrylaw11_LevelDeep.Pure : Prop := ∀ (l0 : List Int) (a1 : Int), l0.length ≤ maxLen → l0.length * 8 ≤ 140737488351232 → (∀ x ∈ l0, (Lit.int .i64 x).wf = true) → (Lit.int .i64 a1).wf = true → ∃ k, parquetrylaw11_LevelDeep.f k l0 a1 = some true
theorem parquetrylaw11_LevelDeep.walk (P : parquetrylaw11_LevelDeep.Pure) (a0 : Option Addr) (len0 cap0 : Nat) (z0 : List Int) (a1 : Int) (w : World) (w0 : (a0 = none ∧ len0 = 0 ∧ cap0 = 0 ∧ z0 = []) ∨ ∃ x, a0 = some x ∧ len0 ≤ cap0 ∧ cap0 ≤ maxLen ∧ z0.length = cap0 ∧ (∀ i, i < z0.length → w.cell? (x.add i) = some (.int .i64 (z0.getD i 0))) ∧ ∀ n ∈ z0, (Lit.int .i64 n).wf = true) (y0 : len0 * 8 ≤ 140737488351232) (w1 : (Lit.int .i64 a1).wf = true) :
    Calls Try.prog 11 #[.slice a0 len0 cap0, .int .i64 a1] w fun e w' => e = .returned (.bool true) ∧ Below w.heap.size w w' := by
  obtain ⟨l0, rfl, hr0, hm0, hw0, hc0⟩ := ReadsInt.ofRowC w0
  obtain ⟨k, h⟩ := P l0 a1 hm0 y0 hw0 w1
  refine (parquetrylaw11_LevelDeep.calls k _ _ l0 a1 true w (Kd.C_of_reads (d := (0 : Int)) (h1 := fun _ => rfl) hr0) hc0 h).mono ?_
  rintro e w' ⟨rfl, hd⟩
  exact ⟨rfl, hd⟩

end Go.Proofs.Ytekllnpmioinfaa.PC11
