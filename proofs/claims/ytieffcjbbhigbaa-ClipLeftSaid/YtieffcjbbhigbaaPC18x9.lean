/- For the laws of the group C18: the Lean functions that the Go functions compute, and proofs that they do. Written by wip/hprint.py of this repo over the kit's printer; nothing here is trusted: Lean checks it. -/
import Derived.Test.YtieffcjbbhigbaaPC18x0
import Derived.Test.YtieffcjbbhigbaaPC18x2
import Derived.Test.YtieffcjbbhigbaaPC18x8
namespace Go.Proofs.Ytieffcjbbhigbaa.PC18
open Go.RowKit Go.Proofs.YtieffcjbbhigbaaW.PrintWords Go.Proofs.YtieffcjbbhigbaaW.PrintLast Go.Proofs.YtieffcjbbhigbaaW.PrintMore
attribute [local go_sem] max2_int min2_int max_two min_two max_three min_three max_four min_four   -- for this text's walks alone
set_option linter.unusedVariables false
set_option linter.unusedSimpArgs false

/-! ### parquetrylaw18_ClipLeft: function 3: by hand -/
theorem parquetrylaw18_ClipLeft.eqA (d : Nat) (w : World) (x0 y0 : Int) (x1 y1 : Int) (x2 y2 : Int) (x3 y3 : Int) (x4 y4 : Int) :
    (Op.equalIn (d + 2) 29 (.agg #[.int .i64 x0, .int .i64 x1, .int .i64 x2, .int .i64 x3, .int .i64 x4]) (.agg #[.int .i64 y0, .int .i64 y1, .int .i64 y2, .int .i64 y3, .int .i64 y4])).run Try.prog w = .ok (x0 == y0 && (x1 == y1 && (x2 == y2 && (x3 == y3 && (x4 == y4))))) w := by
  refine eqA_of Try.underlying29 (by kernel_rfl) ?_
  refine eqf_cons (by rfl) (by go_simp; rfl) (by go_simp; rfl) (by go_simp) ?_
  refine eqf_cons (by rfl) (by go_simp; rfl) (by go_simp; rfl) (by go_simp) ?_
  refine eqf_cons (by rfl) (by go_simp; rfl) (by go_simp; rfl) (by go_simp) ?_
  refine eqf_cons (by rfl) (by go_simp; rfl) (by go_simp; rfl) (by go_simp) ?_
  exact eqf_last (by rfl) (by go_simp; rfl) (by go_simp; rfl) (by go_simp)
attribute [local go_sem high] parquetrylaw18_ClipLeft.eqA
mutual
def parquetrylaw18_ClipLeft.j0 : Nat → List (S39) → List (S29) → Int → Int → Bool → Option (Bool)
  | 0, _, _, _, _, _ => none
  | k + 1, x0, x1, x2, x3, x22 => if x22 = true then ((parquetrylaw18_awake.f k).bind fun t233 => (some t233)) else ((clip_All.f k x0 x1 x2 x3).bind fun bt234 => (if bt234.2 = 0 then (if (bt234.1.length : Int) = (mn (x1.length : Int) (mx x3 0)) then (parquetrylaw18_ClipLeft.l0 k x0 x1 x2 bt234.1 (mn (x1.length : Int) (mx x3 0)) 0) else (some false)) else (if (bt234.1.length : Int) = 0 then ((parquetrylaw18_awake.f k).bind fun t238 => (some t238)) else (some false))))
def parquetrylaw18_ClipLeft.l0 : Nat → List (S39) → List (S29) → Int → List (S29) → Int → Int → Option (Bool)
  | 0, _, _, _, _, _, _ => none
  | k + 1, x0, x1, x2, x9, x11, x12 => if x12 < x11 then (if 0 ≤ x12 then (if x12 < (x1.length : Int) then ((clip_Clip.f k x0 ((rd_T29 x1 x12).f0) ((rd_T29 x1 x12).f1) ((rd_T29 x1 x12).f2) ((rd_T29 x1 x12).f3) ((rd_T29 x1 x12).f4) x2).bind fun bt241 => (if (wrap64 (x12 + 1)) = x11 then (parquetrylaw18_ClipLeft.j2 k x0 x1 x2 x9 x11 x12 bt241.2.2.2.2.2 (decide (x11 < (x1.length : Int))) bt241.1 bt241.2.1 bt241.2.2.1 bt241.2.2.2.1 bt241.2.2.2.2.1) else (parquetrylaw18_ClipLeft.j2 k x0 x1 x2 x9 x11 x12 bt241.2.2.2.2.2 false bt241.1 bt241.2.1 bt241.2.2.1 bt241.2.2.2.1 bt241.2.2.2.2.1))) else (none)) else (none)) else ((parquetrylaw18_awake.f k).bind fun t239 => (some t239))
def parquetrylaw18_ClipLeft.j2 : Nat → List (S39) → List (S29) → Int → List (S29) → Int → Int → Int → Bool → Int → Int → Int → Int → Int → Option (Bool)
  | 0, _, _, _, _, _, _, _, _, _, _, _, _, _ => none
  | k + 1, x0, x1, x2, x9, x11, x12, x14, x73, x248000, x248001, x248002, x248003, x248004 => if x73 = true then (if 0 ≤ x12 then (if x12 < (x1.length : Int) then ((clip_Cut.f k x0 ((rd_T29 x1 x12).f0) ((rd_T29 x1 x12).f1) ((rd_T29 x1 x12).f2) ((rd_T29 x1 x12).f3) ((rd_T29 x1 x12).f4) x2).bind fun bt249 => (if bt249.2.2.2.2.2 = 0 then (if x12 < (x9.length : Int) then (if (!(((rd_T29 x9 x12).f0) == bt249.1) || (!(((rd_T29 x9 x12).f1) == bt249.2.1) || (!(((rd_T29 x9 x12).f2) == bt249.2.2.1) || (!(((rd_T29 x9 x12).f3) == bt249.2.2.2.1) || (!(((rd_T29 x9 x12).f4) == bt249.2.2.2.2.1)))))) = true then (some false) else (parquetrylaw18_ClipLeft.l0 k x0 x1 x2 x9 x11 (wrap64 (x12 + 1)))) else (none)) else (some false))) else (none)) else (none)) else (if x14 = 0 then (if 0 ≤ x12 then (if x12 < (x9.length : Int) then (if (!(((rd_T29 x9 x12).f0) == x248000) || (!(((rd_T29 x9 x12).f1) == x248001) || (!(((rd_T29 x9 x12).f2) == x248002) || (!(((rd_T29 x9 x12).f3) == x248003) || (!(((rd_T29 x9 x12).f4) == x248004)))))) = true then (some false) else (parquetrylaw18_ClipLeft.l0 k x0 x1 x2 x9 x11 (wrap64 (x12 + 1)))) else (none)) else (none)) else (some false))
end
def parquetrylaw18_ClipLeft.f (k : Nat) (l0 : List (S39)) (l1 : List (S29)) (a2 : Int) (a3 : Int) : Option (Bool) := if (l0.length : Int) > 300 then (parquetrylaw18_ClipLeft.j0 k l0 l1 a2 a3 true) else (parquetrylaw18_ClipLeft.j0 k l0 l1 a2 a3 (decide ((l1.length : Int) > 100)))
theorem parquetrylaw18_ClipLeft.mono_l : ∀ k, (∀ y0 y1 y2 y3 y4, LeO (parquetrylaw18_ClipLeft.j0 k y0 y1 y2 y3 y4) (parquetrylaw18_ClipLeft.j0 (k + 1) y0 y1 y2 y3 y4)) ∧ (∀ y0 y1 y2 y3 y4 y5, LeO (parquetrylaw18_ClipLeft.l0 k y0 y1 y2 y3 y4 y5) (parquetrylaw18_ClipLeft.l0 (k + 1) y0 y1 y2 y3 y4 y5)) ∧ (∀ y0 y1 y2 y3 y4 y5 y6 y7 y8 y9 y10 y11 y12, LeO (parquetrylaw18_ClipLeft.j2 k y0 y1 y2 y3 y4 y5 y6 y7 y8 y9 y10 y11 y12) (parquetrylaw18_ClipLeft.j2 (k + 1) y0 y1 y2 y3 y4 y5 y6 y7 y8 y9 y10 y11 y12))
  | 0 => ⟨fun _ _ _ _ _ r h => by simp [parquetrylaw18_ClipLeft.j0] at h, fun _ _ _ _ _ _ r h => by simp [parquetrylaw18_ClipLeft.l0] at h, fun _ _ _ _ _ _ _ _ _ _ _ _ _ r h => by simp [parquetrylaw18_ClipLeft.j2] at h⟩
  | k + 1 => by
    obtain ⟨ih0, ih1, ih2⟩ := parquetrylaw18_ClipLeft.mono_l k
    refine ⟨?_, ?_, ?_⟩
    · intro y0 y1 y2 y3 y4
      unfold parquetrylaw18_ClipLeft.j0
      repeat' first
      | (with_reducible exact ih0 _ _ _ _ _)
      | (with_reducible exact ih1 _ _ _ _ _ _)
      | (with_reducible exact ih2 _ _ _ _ _ _ _ _ _ _ _ _ _)
      | (with_reducible exact clip_All.mono _ _ _ _ _)
      | (with_reducible exact clip_Clip.mono _ _ _ _ _ _ _ _)
      | (with_reducible exact clip_Cut.mono _ _ _ _ _ _ _ _)
      | (with_reducible exact parquetrylaw18_awake.mono _)
      | (with_reducible exact LeO.refl _)
      | (with_reducible exact LeO.none _)
      | (with_reducible refine LeO.ite ?_ ?_)
      | (with_reducible refine LeO.bind ?_ (fun _ => ?_))
      | exact ih0 _ _ _ _ _
      | exact ih1 _ _ _ _ _ _
      | exact ih2 _ _ _ _ _ _ _ _ _ _ _ _ _
      | exact clip_All.mono _ _ _ _ _
      | exact clip_Clip.mono _ _ _ _ _ _ _ _
      | exact clip_Cut.mono _ _ _ _ _ _ _ _
      | exact parquetrylaw18_awake.mono _
      | exact LeO.none _
      | refine LeO.ite ?_ ?_
      | refine LeO.bind ?_ (fun _ => ?_)
    · intro y0 y1 y2 y3 y4 y5
      unfold parquetrylaw18_ClipLeft.l0
      repeat' first
      | (with_reducible exact ih0 _ _ _ _ _)
      | (with_reducible exact ih1 _ _ _ _ _ _)
      | (with_reducible exact ih2 _ _ _ _ _ _ _ _ _ _ _ _ _)
      | (with_reducible exact clip_All.mono _ _ _ _ _)
      | (with_reducible exact clip_Clip.mono _ _ _ _ _ _ _ _)
      | (with_reducible exact clip_Cut.mono _ _ _ _ _ _ _ _)
      | (with_reducible exact parquetrylaw18_awake.mono _)
      | (with_reducible exact LeO.refl _)
      | (with_reducible exact LeO.none _)
      | (with_reducible refine LeO.ite ?_ ?_)
      | (with_reducible refine LeO.bind ?_ (fun _ => ?_))
      | exact ih0 _ _ _ _ _
      | exact ih1 _ _ _ _ _ _
      | exact ih2 _ _ _ _ _ _ _ _ _ _ _ _ _
      | exact clip_All.mono _ _ _ _ _
      | exact clip_Clip.mono _ _ _ _ _ _ _ _
      | exact clip_Cut.mono _ _ _ _ _ _ _ _
      | exact parquetrylaw18_awake.mono _
      | exact LeO.none _
      | refine LeO.ite ?_ ?_
      | refine LeO.bind ?_ (fun _ => ?_)
    · intro y0 y1 y2 y3 y4 y5 y6 y7 y8 y9 y10 y11 y12
      unfold parquetrylaw18_ClipLeft.j2
      repeat' first
      | (with_reducible exact ih0 _ _ _ _ _)
      | (with_reducible exact ih1 _ _ _ _ _ _)
      | (with_reducible exact ih2 _ _ _ _ _ _ _ _ _ _ _ _ _)
      | (with_reducible exact clip_All.mono _ _ _ _ _)
      | (with_reducible exact clip_Clip.mono _ _ _ _ _ _ _ _)
      | (with_reducible exact clip_Cut.mono _ _ _ _ _ _ _ _)
      | (with_reducible exact parquetrylaw18_awake.mono _)
      | (with_reducible exact LeO.refl _)
      | (with_reducible exact LeO.none _)
      | (with_reducible refine LeO.ite ?_ ?_)
      | (with_reducible refine LeO.bind ?_ (fun _ => ?_))
      | exact ih0 _ _ _ _ _
      | exact ih1 _ _ _ _ _ _
      | exact ih2 _ _ _ _ _ _ _ _ _ _ _ _ _
      | exact clip_All.mono _ _ _ _ _
      | exact clip_Clip.mono _ _ _ _ _ _ _ _
      | exact clip_Cut.mono _ _ _ _ _ _ _ _
      | exact parquetrylaw18_awake.mono _
      | exact LeO.none _
      | refine LeO.ite ?_ ?_
      | refine LeO.bind ?_ (fun _ => ?_)
theorem parquetrylaw18_ClipLeft.mono : ∀ a0 a1 a2 a3 k, LeO (parquetrylaw18_ClipLeft.f k a0 a1 a2 a3) (parquetrylaw18_ClipLeft.f (k + 1) a0 a1 a2 a3) := by
  intro a0 a1 a2 a3 k
  obtain ⟨ih0, ih1, ih2⟩ := parquetrylaw18_ClipLeft.mono_l k
  unfold parquetrylaw18_ClipLeft.f
  repeat' first
      | (with_reducible exact ih0 _ _ _ _ _)
      | (with_reducible exact ih1 _ _ _ _ _ _)
      | (with_reducible exact ih2 _ _ _ _ _ _ _ _ _ _ _ _ _)
      | (with_reducible exact clip_All.mono _ _ _ _ _)
      | (with_reducible exact clip_Clip.mono _ _ _ _ _ _ _ _)
      | (with_reducible exact clip_Cut.mono _ _ _ _ _ _ _ _)
      | (with_reducible exact parquetrylaw18_awake.mono _)
      | (with_reducible exact LeO.refl _)
      | (with_reducible exact LeO.none _)
      | (with_reducible refine LeO.ite ?_ ?_)
      | (with_reducible refine LeO.bind ?_ (fun _ => ?_))
      | exact ih0 _ _ _ _ _
      | exact ih1 _ _ _ _ _ _
      | exact ih2 _ _ _ _ _ _ _ _ _ _ _ _ _
      | exact clip_All.mono _ _ _ _ _
      | exact clip_Clip.mono _ _ _ _ _ _ _ _
      | exact clip_Cut.mono _ _ _ _ _ _ _ _
      | exact parquetrylaw18_awake.mono _
      | exact LeO.none _
      | refine LeO.ite ?_ ?_
      | refine LeO.bind ?_ (fun _ => ?_)
theorem parquetrylaw18_ClipLeft.cells5 (a b c d e : Int) : ∀ q ∈ (Value.agg #[.int .i64 a, .int .i64 b, .int .i64 c, .int .i64 d, .int .i64 e]).cells.toList, q.oneCell' = true := fun q hq => by
  have hq' : q ∈ [Value.int .i64 a, .int .i64 b, .int .i64 c, .int .i64 d, .int .i64 e] := hq
  simp only [List.mem_cons, List.not_mem_nil, or_false] at hq'
  rcases hq' with rfl | rfl | rfl | rfl | rfl <;> rfl
set_option maxHeartbeats 8000000 in
set_option maxRecDepth 100000 in
theorem parquetrylaw18_ClipLeft.calls (k : Nat) (A0 : Option Addr) (c0 : Nat) (l0 : List (S39)) (A1 : Option Addr) (c1 : Nat) (l1 : List (S29)) (a2 : Int) (a3 : Int) (r : Bool) (w : World) (hr0 : Kd.C k39 w A0 l0.length l0) (hc0 : l0.length ≤ c0) (hr1 : Kd.C k29 w A1 l1.length l1) (hc1 : l1.length ≤ c1) (h : parquetrylaw18_ClipLeft.f k l0 l1 a2 a3 = some r) :
    Calls Try.prog 3 #[.slice A0 l0.length c0, .slice A1 l1.length c1, .int .i64 a2, .int .i64 a3] w fun e w' => e = .returned (.bool r) ∧ Below w.heap.size w w' := by
  have hu29 := Try.underlying29
  have HR0 := Aside0.mk hr0
  have HC0 := Aside0.mk hc0
  clear hr0 hc0
  have HR1 := Aside0.mk hr1
  have HC1 := Aside0.mk hc1
  clear hr1 hc1
  have HB := Aside0.mk (Below.refl w.heap.size w)
  have H : (if (l0.length : Int) > 300 then (parquetrylaw18_ClipLeft.j0 k l0 l1 a2 a3 true) else (parquetrylaw18_ClipLeft.j0 k l0 l1 a2 a3 (decide ((l1.length : Int) > 100)))) = some r := h
  clear h
  have HC5 := Aside0.mk H
  clear H
  go_enter Try.func3, Try.ntmps3
  try dsimp only [List.append]
  go_upto_region 1 with (fail)
  repeat (go_quiet (fail); go_upto_region 1 with (fail))
  go_cut [22] (fun v22 wc => ∃ (kq : Nat) (x22_4 : Bool), v22 = .bool x22_4 ∧ Aside0 (parquetrylaw18_ClipLeft.j0 kq l0 l1 a2 a3 x22_4 = some r) ∧ Aside0 (kq ≤ k) ∧ Aside0 (Below w.heap.size w wc))
  case first =>
    have H := HC5.out
    clear HC5
    by_cases c6 : (l0.length : Int) > 300
    · rw [if_pos c6] at H
      have c6b0 : decide (300 < (l0.length : Int)) = true := decide_eq_true c6
      have c6b1 : decide (300 < l0.length) = true := decide_eq_true (by omega)
      clear c6
      (first | rw [c6b0] | (simp only [i64_w, i32_w]; rw [c6b0]) | skip)
      have H' := Aside0.mk H
      clear H
      go_wp2
      repeat (go_quiet (fail); try go_wp2)
      go_meet
      case rel => exact ⟨_, (true), (by first | rfl | (simp; done) | (simp [*]; done)), H', ⟨by first | omega | exact Nat.le_refl _⟩, ⟨by repeat (first | (with_reducible first | exact HB.out | apply below_alloc | apply pw_below_drewN | apply below_drew1) | exact HB.out)⟩⟩
    · rw [if_neg c6] at H
      have c6b0 : decide (300 < (l0.length : Int)) = false := decide_eq_false c6
      have c6b1 : decide (300 < l0.length) = false := decide_eq_false (by omega)
      clear c6
      (first | rw [c6b0] | (simp only [i64_w, i32_w]; rw [c6b0]) | skip)
      have H' := Aside0.mk H
      clear H
      go_wp2
      repeat (go_quiet (fail); try go_wp2)
      go_meet
      case rel => exact ⟨_, (decide ((l1.length : Int) > 100)), (by first | rfl | (simp; done) | (simp [*]; done)), H', ⟨by first | omega | exact Nat.le_refl _⟩, ⟨by repeat (first | (with_reducible first | exact HB.out | apply below_alloc | apply pw_below_drewN | apply below_drew1) | exact HB.out)⟩⟩
  case rest =>
    clear HC5
    try clear c1
    try clear p2
    try clear c3
    try clear c6
    try clear c6b0
    try clear c6b1
    obtain ⟨kq, x22_4, rfl, HA, HJ4, HB⟩ := hcut
    cases kq with
    | zero => exact absurd HA.out (by simp [parquetrylaw18_ClipLeft.j0])
    | succ kj4 =>
      have H := HA.out
      clear HA
      simp only [parquetrylaw18_ClipLeft.j0] at H
      by_cases c7 : x22_4 = true
      · subst c7
        have H1 : ((parquetrylaw18_awake.f kj4).bind fun t233 => (some t233)) = some r := by rw [if_pos rfl] at H; exact H
        clear H
        have H := H1
        clear H1
        replace H := Option.bind_eq_some_iff.mp H
        obtain ⟨t233, A80, H⟩ := H
        replace H : (some t233) = some r := H
        have A8 := Aside0.mk A80
        clear A80
        obtain rfl := Option.some.inj H
        go_wp2_with (first | (go_at_call 10; (with_reducible refine (parquetrylaw18_awake.calls kj4  t233 _ A8.out).mono ?_); rintro e w9 ⟨rfl, hb⟩; have n0_ := Aside0.mk (below_step (by repeat (first | (with_reducible first | exact HB.out | apply below_alloc | apply pw_below_drewN | apply below_drew1) | exact HB.out)) hb); clear HB; have HB := n0_; clear n0_; (try clear hb); (try clear hb2); (try clear hk); (try clear hi)))
        repeat (go_quiet (first | (go_at_call 10; (with_reducible refine (parquetrylaw18_awake.calls kj4  t233 _ A8.out).mono ?_); rintro e w9 ⟨rfl, hb⟩; have n0_ := Aside0.mk (below_step (by repeat (first | (with_reducible first | exact HB.out | apply below_alloc | apply pw_below_drewN | apply below_drew1) | exact HB.out)) hb); clear HB; have HB := n0_; clear n0_; (try clear hb); (try clear hb2); (try clear hk); (try clear hi))); try go_wp2_with (first | (go_at_call 10; (with_reducible refine (parquetrylaw18_awake.calls kj4  t233 _ A8.out).mono ?_); rintro e w9 ⟨rfl, hb⟩; have n0_ := Aside0.mk (below_step (by repeat (first | (with_reducible first | exact HB.out | apply below_alloc | apply pw_below_drewN | apply below_drew1) | exact HB.out)) hb); clear HB; have HB := n0_; clear n0_; (try clear hb); (try clear hb2); (try clear hk); (try clear hi))))
        go_ret
        exact ⟨by first | rfl | (simp [errW_none, errW_some] <;> rfl) | (simp [*, errW_none, errW_some] <;> rfl), by repeat (first | (with_reducible first | exact HB.out | apply below_alloc | apply pw_below_drewN | apply below_drew1) | exact HB.out)⟩
      · replace c7 := Bool.eq_false_iff.mpr c7
        subst c7
        have H1 : ((clip_All.f kj4 l0 l1 a2 a3).bind fun bt234 => (if bt234.2 = 0 then (if (bt234.1.length : Int) = (mn (l1.length : Int) (mx a3 0)) then (parquetrylaw18_ClipLeft.l0 kj4 l0 l1 a2 bt234.1 (mn (l1.length : Int) (mx a3 0)) 0) else (some false)) else (if (bt234.1.length : Int) = 0 then ((parquetrylaw18_awake.f kj4).bind fun t238 => (some t238)) else (some false)))) = some r := by rw [if_neg (show ¬ (false = true) by decide)] at H; exact H
        clear H
        have H := H1
        clear H1
        replace H := Option.bind_eq_some_iff.mp H
        obtain ⟨⟨t234, t235⟩, A100, H⟩ := H
        replace H : (if t235 = 0 then (if (t234.length : Int) = (mn (l1.length : Int) (mx a3 0)) then (parquetrylaw18_ClipLeft.l0 kj4 l0 l1 a2 t234 (mn (l1.length : Int) (mx a3 0)) 0) else (some false)) else (if (t234.length : Int) = 0 then ((parquetrylaw18_awake.f kj4).bind fun t238 => (some t238)) else (some false))) = some r := H
        have A10 := Aside0.mk A100
        clear A100
        by_cases c11 : t235 = 0
        · rw [if_pos c11] at H
          have c11b0 : (t235 == 0) = true := beq_iff_eq.mpr c11
          have c11b1 : (t235 != 0) = false := bne_eq_false_iff_eq.mpr c11
          clear c11
          obtain ⟨ji12, hji12⟩ : ∃ j_ : Int, (mx a3 0) = j_ := ⟨_, rfl⟩
          replace H : (if (t234.length : Int) = (mn (l1.length : Int) (ji12)) then (parquetrylaw18_ClipLeft.l0 kj4 l0 l1 a2 t234 (mn (l1.length : Int) (ji12)) 0) else (some false)) = some r := by first | (rw [hji12] at H; exact H) | (simp only [hji12] at H ⊢; exact H)
          (try rw [hji12] at A10)
          have hji12_ : (if a3 < 0 then 0 else a3) = ji12 := hji12
          obtain ⟨ji13, hji13⟩ : ∃ j_ : Int, (mn (l1.length : Int) (ji12)) = j_ := ⟨_, rfl⟩
          replace H : (if (t234.length : Int) = (ji13) then (parquetrylaw18_ClipLeft.l0 kj4 l0 l1 a2 t234 ji13 0) else (some false)) = some r := by first | (rw [hji13] at H; exact H) | (simp only [hji13] at H ⊢; exact H)
          (try rw [hji13] at A10)
          have hji13_ : (if (ji12) < (l1.length : Int) then (ji12) else (l1.length : Int)) = ji13 := hji13
          by_cases c14 : (t234.length : Int) = (ji13)
          · rw [if_pos c14] at H
            have c14b0 : ((t234.length : Int) == (ji13)) = true := beq_iff_eq.mpr c14
            have c14b1 : ((t234.length : Int) != (ji13)) = false := bne_eq_false_iff_eq.mpr c14
            clear c14
            have H' := Aside0.mk H
            clear H
            go_wp2_with (first | (go_at_call 11; (with_reducible refine (clip_All.calls kj4 _ _ l0 _ _ l1 a2 a3 t234 t235 _ ?side1 ?side2 ?side3 ?side4 A10.out).mono ?_); (case side1 => repeat (first | exact (Kd.C_below HR0.out HB.out) | (with_reducible refine Kd.C_alloc ?_ _) | (with_reducible refine Kd.C_drewN ?_ _) | (with_reducible refine Kd.C_drew ?_))); (case side2 => exact HC0.out); (case side3 => repeat (first | exact (Kd.C_below HR1.out HB.out) | (with_reducible refine Kd.C_alloc ?_ _) | (with_reducible refine Kd.C_drewN ?_ _) | (with_reducible refine Kd.C_drew ?_))); (case side4 => exact HC1.out); rintro e w15 ⟨v236, rfl, ho0, hb⟩; have n0_ := Aside0.mk (Kd.R_lower ho0 (below_size (by repeat (first | (with_reducible first | exact HB.out | apply below_alloc | apply pw_below_drewN | apply below_drew1) | exact HB.out)))); have n1_ := Aside0.mk (below_step (by repeat (first | (with_reducible first | exact HB.out | apply below_alloc | apply pw_below_drewN | apply below_drew1) | exact HB.out)) hb); clear HB; have HO237 := n0_; have HB := n1_; clear n0_ n1_; (try clear hb); (try clear hb2); (try clear hk); (try clear hi); (try clear ho0); obtain ⟨Ao16, co16, eo16⟩ := Kd.R_slice HO237.out; subst eo16))
            repeat (go_quiet (first | (go_at_call 11; (with_reducible refine (clip_All.calls kj4 _ _ l0 _ _ l1 a2 a3 t234 t235 _ ?side1 ?side2 ?side3 ?side4 A10.out).mono ?_); (case side1 => repeat (first | exact (Kd.C_below HR0.out HB.out) | (with_reducible refine Kd.C_alloc ?_ _) | (with_reducible refine Kd.C_drewN ?_ _) | (with_reducible refine Kd.C_drew ?_))); (case side2 => exact HC0.out); (case side3 => repeat (first | exact (Kd.C_below HR1.out HB.out) | (with_reducible refine Kd.C_alloc ?_ _) | (with_reducible refine Kd.C_drewN ?_ _) | (with_reducible refine Kd.C_drew ?_))); (case side4 => exact HC1.out); rintro e w15 ⟨v236, rfl, ho0, hb⟩; have n0_ := Aside0.mk (Kd.R_lower ho0 (below_size (by repeat (first | (with_reducible first | exact HB.out | apply below_alloc | apply pw_below_drewN | apply below_drew1) | exact HB.out)))); have n1_ := Aside0.mk (below_step (by repeat (first | (with_reducible first | exact HB.out | apply below_alloc | apply pw_below_drewN | apply below_drew1) | exact HB.out)) hb); clear HB; have HO237 := n0_; have HB := n1_; clear n0_ n1_; (try clear hb); (try clear hb2); (try clear hk); (try clear hi); (try clear ho0); obtain ⟨Ao16, co16, eo16⟩ := Kd.R_slice HO237.out; subst eo16)); try go_wp2_with (first | (go_at_call 11; (with_reducible refine (clip_All.calls kj4 _ _ l0 _ _ l1 a2 a3 t234 t235 _ ?side1 ?side2 ?side3 ?side4 A10.out).mono ?_); (case side1 => repeat (first | exact (Kd.C_below HR0.out HB.out) | (with_reducible refine Kd.C_alloc ?_ _) | (with_reducible refine Kd.C_drewN ?_ _) | (with_reducible refine Kd.C_drew ?_))); (case side2 => exact HC0.out); (case side3 => repeat (first | exact (Kd.C_below HR1.out HB.out) | (with_reducible refine Kd.C_alloc ?_ _) | (with_reducible refine Kd.C_drewN ?_ _) | (with_reducible refine Kd.C_drew ?_))); (case side4 => exact HC1.out); rintro e w15 ⟨v236, rfl, ho0, hb⟩; have n0_ := Aside0.mk (Kd.R_lower ho0 (below_size (by repeat (first | (with_reducible first | exact HB.out | apply below_alloc | apply pw_below_drewN | apply below_drew1) | exact HB.out)))); have n1_ := Aside0.mk (below_step (by repeat (first | (with_reducible first | exact HB.out | apply below_alloc | apply pw_below_drewN | apply below_drew1) | exact HB.out)) hb); clear HB; have HO237 := n0_; have HB := n1_; clear n0_ n1_; (try clear hb); (try clear hb2); (try clear hk); (try clear hi); (try clear ho0); obtain ⟨Ao16, co16, eo16⟩ := Kd.R_slice HO237.out; subst eo16)))
            go_loopg [12] kj4 (fun kq v12 w' => ∃ (x12_2 : Int), v12 = .int .i64 x12_2 ∧ Aside0 (parquetrylaw18_ClipLeft.l0 kq l0 l1 a2 t234 ji13 x12_2 = some r) ∧ Aside0 (kq ≤ kj4) ∧ Aside0 (Kd.R k29 29 w' w.heap.size (fun _ => True) (.slice Ao16 t234.length co16) t234) ∧ Aside0 (Below w.heap.size w w'))
            case atStart => exact ⟨(0), (by first | rfl | (simp; done) | (simp [*]; done)), H', ⟨Nat.le_refl _⟩, ⟨by (with_reducible repeat (first | apply Kd.R_alloc | apply Kd.R_drewN | apply Kd.R_drew)); exact HO237.out⟩, ⟨by repeat (first | (with_reducible first | exact HB.out | apply below_alloc | apply pw_below_drewN | apply below_drew1) | exact HB.out)⟩⟩
            case round =>
              clear H'
              try clear c1
              try clear p2
              try clear c3
              try clear c6
              try clear c6b0
              try clear c6b1
              try clear c7
              try clear c11
              try clear c11b0
              try clear c11b1
              try clear c14
              try clear c14b0
              try clear c14b1
              try clear p2
              obtain ⟨x12_2, rfl, HA, HK2, HO_9, HB⟩ := hrel
              cases gk with
              | zero => exact absurd HA.out (by simp [parquetrylaw18_ClipLeft.l0])
              | succ k2 =>
                have H := HA.out
                clear HA
                simp only [parquetrylaw18_ClipLeft.l0] at H
                by_cases c17 : x12_2 < ji13
                · rw [if_pos c17] at H
                  have c17b0 : decide (x12_2 < ji13) = true := decide_eq_true c17
                  clear c17
                  by_cases c18 : 0 ≤ x12_2
                  · rw [if_pos c18] at H
                    have c18b0 : decide (0 ≤ x12_2) = true := decide_eq_true c18
                    clear c18
                    by_cases c19 : x12_2 < (l1.length : Int)
                    · rw [if_pos c19] at H
                      have c19b0 : decide (x12_2 < (l1.length : Int)) = true := decide_eq_true c19
                      clear c19
                      replace H := Option.bind_eq_some_iff.mp H
                      obtain ⟨⟨t241, t242, t243, t244, t245, t246⟩, A200, H⟩ := H
                      replace H : (if (wrap64 (x12_2 + 1)) = ji13 then (parquetrylaw18_ClipLeft.j2 k2 l0 l1 a2 t234 ji13 x12_2 t246 (decide (ji13 < (l1.length : Int))) t241 t242 t243 t244 t245) else (parquetrylaw18_ClipLeft.j2 k2 l0 l1 a2 t234 ji13 x12_2 t246 false t241 t242 t243 t244 t245)) = some r := H
                      have A20 := Aside0.mk A200
                      clear A200
                      have HC21 := Aside0.mk H
                      clear H
                      have p240 : 0 ≤ (x12_2 : Int) := of_decide_eq_true (by first | (with_reducible assumption) | assumption)
                      have q240 : x12_2 < (l1.length : Int) := of_decide_eq_true (by first | (with_reducible assumption) | assumption)
                      obtain ⟨ad240, e240, hx240_0, hx240_1, hx240_2, hx240_3, hx240_4⟩ := at_T29 HR1.out x12_2 p240 q240
                      cases e240
                      replace hx240_0 := (HB.out.cell (World.block_lt_of_cell? w _ hx240_0)).trans hx240_0
                      replace hx240_1 := (HB.out.cell (World.block_lt_of_cell? w _ hx240_1)).trans hx240_1
                      replace hx240_2 := (HB.out.cell (World.block_lt_of_cell? w _ hx240_2)).trans hx240_2
                      replace hx240_3 := (HB.out.cell (World.block_lt_of_cell? w _ hx240_3)).trans hx240_3
                      replace hx240_4 := (HB.out.cell (World.block_lt_of_cell? w _ hx240_4)).trans hx240_4
                      replace p240 := eq_true p240
                      replace q240 := eq_true q240
                      go_upto_region 13 with (first | (go_at_call 12; (with_reducible refine (clip_Clip.calls k2 _ _ l0 ((rd_T29 l1 x12_2).f0) ((rd_T29 l1 x12_2).f1) ((rd_T29 l1 x12_2).f2) ((rd_T29 l1 x12_2).f3) ((rd_T29 l1 x12_2).f4) a2 t241 t242 t243 t244 t245 t246 _ ?side1 ?side2 A20.out).mono ?_); (case side1 => repeat (first | exact (Kd.C_below HR0.out HB.out) | (with_reducible refine Kd.C_alloc ?_ _) | (with_reducible refine Kd.C_drewN ?_ _) | (with_reducible refine Kd.C_drew ?_))); (case side2 => exact HC0.out); rintro e w22 ⟨rfl, hb⟩; have n0_ := Aside0.mk (Kd.R_below (by (with_reducible repeat (first | apply Kd.R_alloc | apply Kd.R_drewN | apply Kd.R_drew)); exact HO_9.out) hb); have n1_ := Aside0.mk (below_step (by repeat (first | (with_reducible first | exact HB.out | apply below_alloc | apply pw_below_drewN | apply below_drew1) | exact HB.out)) hb); clear HO_9; clear HB; have HO_9 := n0_; have HB := n1_; clear n0_ n1_; (try clear hb); (try clear hb2); (try clear hk); (try clear hi)) | ((with_reducible refine gate_dst (N := 13) rfl ?_); (try (refine gate_guard (by rfl) ?_; dsimp only)); refine box_event ?hg (N := 13) ?hd (cs := #[.int .i64 0, .int .i64 0, .int .i64 0, .int .i64 0, .int .i64 0]) (t := 29) ?hr ?_; (case hd => rfl); (case hg => rfl); (case hr => first | (go_simp; done) | (go_simp; rfl)); intro gb247 hg w23 hbox hb; have n0_ := Aside0.mk (Kd.R_below (Kd.R_elderB (by (with_reducible repeat (first | apply Kd.R_alloc | apply Kd.R_drewN | apply Kd.R_drew)); exact HO_9.out) gb247 (Nat.le_of_eq hg.symm)) hb); have n1_ := Aside0.mk (below_step (by repeat (first | (with_reducible first | exact HB.out | apply below_alloc | apply pw_below_drewN | apply below_drew1) | exact HB.out)) hb); have n2_ := Aside0.mk (hbox); have n3_ := Aside0.mk ((by rw [hg]; exact (below_size (by repeat (first | (with_reducible first | exact HB.out | apply below_alloc | apply pw_below_drewN | apply below_drew1) | exact HB.out))) : w.heap.size ≤ gb247)); have n4_ := Aside0.mk ((by rw [hg]; exact (below_size (by repeat (first | (with_reducible first | exact HB.out | apply below_alloc | apply pw_below_drewN | apply below_drew1) | exact HB.out))) : w.heap.size ≤ gb247)); clear HO_9; clear HB; have HO_9 := n0_; have HB := n1_; have BK247 := n2_; have GW247 := n3_; have GE247 := n4_; clear n0_ n1_ n2_ n3_ n4_; clear hb hbox hg; have hcz24_0 : w23.cell? ⟨gb247, 0, none⟩ = some (.int .i64 0) := (blk_cell BK247.out 0).trans rfl; have hcz24_1 : w23.cell? ⟨gb247, 1, none⟩ = some (.int .i64 0) := (blk_cell BK247.out 1).trans rfl; have hcz24_2 : w23.cell? ⟨gb247, 2, none⟩ = some (.int .i64 0) := (blk_cell BK247.out 2).trans rfl; have hcz24_3 : w23.cell? ⟨gb247, 3, none⟩ = some (.int .i64 0) := (blk_cell BK247.out 3).trans rfl; have hcz24_4 : w23.cell? ⟨gb247, 4, none⟩ = some (.int .i64 0) := (blk_cell BK247.out 4).trans rfl; have hfz24_0 := blk_frozen BK247.out 0; have hfz24_1 := blk_frozen BK247.out 1; have hfz24_2 := blk_frozen BK247.out 2; have hfz24_3 := blk_frozen BK247.out 3; have hfz24_4 := blk_frozen BK247.out 4))
                      repeat (go_quiet (first | (go_at_call 12; (with_reducible refine (clip_Clip.calls k2 _ _ l0 ((rd_T29 l1 x12_2).f0) ((rd_T29 l1 x12_2).f1) ((rd_T29 l1 x12_2).f2) ((rd_T29 l1 x12_2).f3) ((rd_T29 l1 x12_2).f4) a2 t241 t242 t243 t244 t245 t246 _ ?side1 ?side2 A20.out).mono ?_); (case side1 => repeat (first | exact (Kd.C_below HR0.out HB.out) | (with_reducible refine Kd.C_alloc ?_ _) | (with_reducible refine Kd.C_drewN ?_ _) | (with_reducible refine Kd.C_drew ?_))); (case side2 => exact HC0.out); rintro e w22 ⟨rfl, hb⟩; have n0_ := Aside0.mk (Kd.R_below (by (with_reducible repeat (first | apply Kd.R_alloc | apply Kd.R_drewN | apply Kd.R_drew)); exact HO_9.out) hb); have n1_ := Aside0.mk (below_step (by repeat (first | (with_reducible first | exact HB.out | apply below_alloc | apply pw_below_drewN | apply below_drew1) | exact HB.out)) hb); clear HO_9; clear HB; have HO_9 := n0_; have HB := n1_; clear n0_ n1_; (try clear hb); (try clear hb2); (try clear hk); (try clear hi)) | ((with_reducible refine gate_dst (N := 13) rfl ?_); (try (refine gate_guard (by rfl) ?_; dsimp only)); refine box_event ?hg (N := 13) ?hd (cs := #[.int .i64 0, .int .i64 0, .int .i64 0, .int .i64 0, .int .i64 0]) (t := 29) ?hr ?_; (case hd => rfl); (case hg => rfl); (case hr => first | (go_simp; done) | (go_simp; rfl)); intro gb247 hg w23 hbox hb; have n0_ := Aside0.mk (Kd.R_below (Kd.R_elderB (by (with_reducible repeat (first | apply Kd.R_alloc | apply Kd.R_drewN | apply Kd.R_drew)); exact HO_9.out) gb247 (Nat.le_of_eq hg.symm)) hb); have n1_ := Aside0.mk (below_step (by repeat (first | (with_reducible first | exact HB.out | apply below_alloc | apply pw_below_drewN | apply below_drew1) | exact HB.out)) hb); have n2_ := Aside0.mk (hbox); have n3_ := Aside0.mk ((by rw [hg]; exact (below_size (by repeat (first | (with_reducible first | exact HB.out | apply below_alloc | apply pw_below_drewN | apply below_drew1) | exact HB.out))) : w.heap.size ≤ gb247)); have n4_ := Aside0.mk ((by rw [hg]; exact (below_size (by repeat (first | (with_reducible first | exact HB.out | apply below_alloc | apply pw_below_drewN | apply below_drew1) | exact HB.out))) : w.heap.size ≤ gb247)); clear HO_9; clear HB; have HO_9 := n0_; have HB := n1_; have BK247 := n2_; have GW247 := n3_; have GE247 := n4_; clear n0_ n1_ n2_ n3_ n4_; clear hb hbox hg; have hcz24_0 : w23.cell? ⟨gb247, 0, none⟩ = some (.int .i64 0) := (blk_cell BK247.out 0).trans rfl; have hcz24_1 : w23.cell? ⟨gb247, 1, none⟩ = some (.int .i64 0) := (blk_cell BK247.out 1).trans rfl; have hcz24_2 : w23.cell? ⟨gb247, 2, none⟩ = some (.int .i64 0) := (blk_cell BK247.out 2).trans rfl; have hcz24_3 : w23.cell? ⟨gb247, 3, none⟩ = some (.int .i64 0) := (blk_cell BK247.out 3).trans rfl; have hcz24_4 : w23.cell? ⟨gb247, 4, none⟩ = some (.int .i64 0) := (blk_cell BK247.out 4).trans rfl; have hfz24_0 := blk_frozen BK247.out 0; have hfz24_1 := blk_frozen BK247.out 1; have hfz24_2 := blk_frozen BK247.out 2; have hfz24_3 := blk_frozen BK247.out 3; have hfz24_4 := blk_frozen BK247.out 4)); go_upto_region 13 with (first | (go_at_call 12; (with_reducible refine (clip_Clip.calls k2 _ _ l0 ((rd_T29 l1 x12_2).f0) ((rd_T29 l1 x12_2).f1) ((rd_T29 l1 x12_2).f2) ((rd_T29 l1 x12_2).f3) ((rd_T29 l1 x12_2).f4) a2 t241 t242 t243 t244 t245 t246 _ ?side1 ?side2 A20.out).mono ?_); (case side1 => repeat (first | exact (Kd.C_below HR0.out HB.out) | (with_reducible refine Kd.C_alloc ?_ _) | (with_reducible refine Kd.C_drewN ?_ _) | (with_reducible refine Kd.C_drew ?_))); (case side2 => exact HC0.out); rintro e w22 ⟨rfl, hb⟩; have n0_ := Aside0.mk (Kd.R_below (by (with_reducible repeat (first | apply Kd.R_alloc | apply Kd.R_drewN | apply Kd.R_drew)); exact HO_9.out) hb); have n1_ := Aside0.mk (below_step (by repeat (first | (with_reducible first | exact HB.out | apply below_alloc | apply pw_below_drewN | apply below_drew1) | exact HB.out)) hb); clear HO_9; clear HB; have HO_9 := n0_; have HB := n1_; clear n0_ n1_; (try clear hb); (try clear hb2); (try clear hk); (try clear hi)) | ((with_reducible refine gate_dst (N := 13) rfl ?_); (try (refine gate_guard (by rfl) ?_; dsimp only)); refine box_event ?hg (N := 13) ?hd (cs := #[.int .i64 0, .int .i64 0, .int .i64 0, .int .i64 0, .int .i64 0]) (t := 29) ?hr ?_; (case hd => rfl); (case hg => rfl); (case hr => first | (go_simp; done) | (go_simp; rfl)); intro gb247 hg w23 hbox hb; have n0_ := Aside0.mk (Kd.R_below (Kd.R_elderB (by (with_reducible repeat (first | apply Kd.R_alloc | apply Kd.R_drewN | apply Kd.R_drew)); exact HO_9.out) gb247 (Nat.le_of_eq hg.symm)) hb); have n1_ := Aside0.mk (below_step (by repeat (first | (with_reducible first | exact HB.out | apply below_alloc | apply pw_below_drewN | apply below_drew1) | exact HB.out)) hb); have n2_ := Aside0.mk (hbox); have n3_ := Aside0.mk ((by rw [hg]; exact (below_size (by repeat (first | (with_reducible first | exact HB.out | apply below_alloc | apply pw_below_drewN | apply below_drew1) | exact HB.out))) : w.heap.size ≤ gb247)); have n4_ := Aside0.mk ((by rw [hg]; exact (below_size (by repeat (first | (with_reducible first | exact HB.out | apply below_alloc | apply pw_below_drewN | apply below_drew1) | exact HB.out))) : w.heap.size ≤ gb247)); clear HO_9; clear HB; have HO_9 := n0_; have HB := n1_; have BK247 := n2_; have GW247 := n3_; have GE247 := n4_; clear n0_ n1_ n2_ n3_ n4_; clear hb hbox hg; have hcz24_0 : w23.cell? ⟨gb247, 0, none⟩ = some (.int .i64 0) := (blk_cell BK247.out 0).trans rfl; have hcz24_1 : w23.cell? ⟨gb247, 1, none⟩ = some (.int .i64 0) := (blk_cell BK247.out 1).trans rfl; have hcz24_2 : w23.cell? ⟨gb247, 2, none⟩ = some (.int .i64 0) := (blk_cell BK247.out 2).trans rfl; have hcz24_3 : w23.cell? ⟨gb247, 3, none⟩ = some (.int .i64 0) := (blk_cell BK247.out 3).trans rfl; have hcz24_4 : w23.cell? ⟨gb247, 4, none⟩ = some (.int .i64 0) := (blk_cell BK247.out 4).trans rfl; have hfz24_0 := blk_frozen BK247.out 0; have hfz24_1 := blk_frozen BK247.out 1; have hfz24_2 := blk_frozen BK247.out 2; have hfz24_3 := blk_frozen BK247.out 3; have hfz24_4 := blk_frozen BK247.out 4)))
                      (try simp only [Act.put, List.setIfInBounds_toArray, List.set_cons_zero, List.set_cons_succ])
                      go_cut [73] (fun v73 wc => ∃ (kq : Nat) (x73_20 : Bool), v73 = .bool x73_20 ∧ Aside0 (parquetrylaw18_ClipLeft.j2 kq l0 l1 a2 t234 ji13 x12_2 t246 x73_20 t241 t242 t243 t244 t245 = some r) ∧ Aside0 (kq ≤ k2) ∧ Aside0 (Kd.R k29 29 wc w.heap.size (fun k_ => k_ ≠ gb247) (.slice Ao16 t234.length co16) t234) ∧ Aside0 (wc.heap[gb247]? = some (.cells #[.int .i64 t241, .int .i64 t242, .int .i64 t243, .int .i64 t244, .int .i64 t245] 29 (0, 0))) ∧ Aside0 (Below w.heap.size w wc))
                      case first =>
                        have H := HC21.out
                        clear HC21
                        by_cases c25 : (wrap64 (x12_2 + 1)) = ji13
                        · rw [if_pos c25] at H
                          have c25b0 : ((wrap64 (x12_2 + 1)) == ji13) = true := beq_iff_eq.mpr c25
                          have c25b1 : ((wrap64 (x12_2 + 1)) != ji13) = false := bne_eq_false_iff_eq.mpr c25
                          clear c25
                          (first | rw [c25b0] | (simp only [i64_w, i32_w]; rw [c25b0]) | skip)
                          have H' := Aside0.mk H
                          clear H
                          go_wp2
                          repeat (go_quiet (fail); try go_wp2)
                          go_meet
                          case rel => exact ⟨_, (decide (ji13 < (l1.length : Int))), (by first | rfl | (simp; done) | (simp only [← hji13] <;> (first | rfl | simp)) | (simp [*]; done)), H', ⟨by have := HJ4.out; have := HK2.out; first | omega | exact Nat.le_refl _⟩, ⟨by (with_reducible repeat (first | apply Kd.R_alloc | apply Kd.R_drewN | apply Kd.R_drew)); exact Kd.R_mono (Kd.R_far (p := ⟨gb247, 4, none⟩) (Kd.R_far (p := ⟨gb247, 3, none⟩) (Kd.R_far (p := ⟨gb247, 2, none⟩) (Kd.R_far (p := ⟨gb247, 1, none⟩) (Kd.R_far (p := ⟨gb247, 0, none⟩) (Kd.R_mono HO_9.out (fun k_ hk => (⟨hk, hk.2⟩ : _ ∧ k_ ≠ gb247))) (fun _ hk => hk.2) (.int .i64 t241)) (fun _ hk => hk.2) (.int .i64 t242)) (fun _ hk => hk.2) (.int .i64 t243)) (fun _ hk => hk.2) (.int .i64 t244)) (fun _ hk => hk.2) (.int .i64 t245)) (fun _ hk => hk.1.2)⟩, ⟨by (with_reducible repeat (first | refine blk_drewN ?_ _ | refine blk_drew ?_ | refine blk_alloc ?_ _)); refine blk_put (cs := #[.int .i64 t241, .int .i64 t242, .int .i64 t243, .int .i64 t244, .int .i64 0]) ?_ 4 _ rfl; (with_reducible repeat (first | refine blk_drewN ?_ _ | refine blk_drew ?_ | refine blk_alloc ?_ _)); refine blk_put (cs := #[.int .i64 t241, .int .i64 t242, .int .i64 t243, .int .i64 0, .int .i64 0]) ?_ 3 _ rfl; (with_reducible repeat (first | refine blk_drewN ?_ _ | refine blk_drew ?_ | refine blk_alloc ?_ _)); refine blk_put (cs := #[.int .i64 t241, .int .i64 t242, .int .i64 0, .int .i64 0, .int .i64 0]) ?_ 2 _ rfl; (with_reducible repeat (first | refine blk_drewN ?_ _ | refine blk_drew ?_ | refine blk_alloc ?_ _)); refine blk_put (cs := #[.int .i64 t241, .int .i64 0, .int .i64 0, .int .i64 0, .int .i64 0]) ?_ 1 _ rfl; (with_reducible repeat (first | refine blk_drewN ?_ _ | refine blk_drew ?_ | refine blk_alloc ?_ _)); refine blk_put (cs := #[.int .i64 0, .int .i64 0, .int .i64 0, .int .i64 0, .int .i64 0]) ?_ 0 _ rfl; (with_reducible repeat (first | refine blk_drewN ?_ _ | refine blk_drew ?_ | refine blk_alloc ?_ _)); exact BK247.out⟩, ⟨by repeat (first | (with_reducible first | exact HB.out | apply below_alloc | apply pw_below_drewN | apply below_drew1 | refine below_set ?_ GE247.out) | exact HB.out)⟩⟩
                        · rw [if_neg c25] at H
                          have c25b0 : ((wrap64 (x12_2 + 1)) == ji13) = false := beq_eq_false_iff_ne.mpr c25
                          have c25b1 : ((wrap64 (x12_2 + 1)) != ji13) = true := bne_iff_ne.mpr c25
                          (first | rw [c25b0] | (simp only [i64_w, i32_w]; rw [c25b0]) | skip)
                          have H' := Aside0.mk H
                          clear H
                          go_wp2
                          repeat (go_quiet (fail); try go_wp2)
                          go_meet
                          case rel => exact ⟨_, (false), (by first | rfl | (simp; done) | (simp [*]; done)), H', ⟨by have := HJ4.out; have := HK2.out; first | omega | exact Nat.le_refl _⟩, ⟨by (with_reducible repeat (first | apply Kd.R_alloc | apply Kd.R_drewN | apply Kd.R_drew)); exact Kd.R_mono (Kd.R_far (p := ⟨gb247, 4, none⟩) (Kd.R_far (p := ⟨gb247, 3, none⟩) (Kd.R_far (p := ⟨gb247, 2, none⟩) (Kd.R_far (p := ⟨gb247, 1, none⟩) (Kd.R_far (p := ⟨gb247, 0, none⟩) (Kd.R_mono HO_9.out (fun k_ hk => (⟨hk, hk.2⟩ : _ ∧ k_ ≠ gb247))) (fun _ hk => hk.2) (.int .i64 t241)) (fun _ hk => hk.2) (.int .i64 t242)) (fun _ hk => hk.2) (.int .i64 t243)) (fun _ hk => hk.2) (.int .i64 t244)) (fun _ hk => hk.2) (.int .i64 t245)) (fun _ hk => hk.1.2)⟩, ⟨by (with_reducible repeat (first | refine blk_drewN ?_ _ | refine blk_drew ?_ | refine blk_alloc ?_ _)); refine blk_put (cs := #[.int .i64 t241, .int .i64 t242, .int .i64 t243, .int .i64 t244, .int .i64 0]) ?_ 4 _ rfl; (with_reducible repeat (first | refine blk_drewN ?_ _ | refine blk_drew ?_ | refine blk_alloc ?_ _)); refine blk_put (cs := #[.int .i64 t241, .int .i64 t242, .int .i64 t243, .int .i64 0, .int .i64 0]) ?_ 3 _ rfl; (with_reducible repeat (first | refine blk_drewN ?_ _ | refine blk_drew ?_ | refine blk_alloc ?_ _)); refine blk_put (cs := #[.int .i64 t241, .int .i64 t242, .int .i64 0, .int .i64 0, .int .i64 0]) ?_ 2 _ rfl; (with_reducible repeat (first | refine blk_drewN ?_ _ | refine blk_drew ?_ | refine blk_alloc ?_ _)); refine blk_put (cs := #[.int .i64 t241, .int .i64 0, .int .i64 0, .int .i64 0, .int .i64 0]) ?_ 1 _ rfl; (with_reducible repeat (first | refine blk_drewN ?_ _ | refine blk_drew ?_ | refine blk_alloc ?_ _)); refine blk_put (cs := #[.int .i64 0, .int .i64 0, .int .i64 0, .int .i64 0, .int .i64 0]) ?_ 0 _ rfl; (with_reducible repeat (first | refine blk_drewN ?_ _ | refine blk_drew ?_ | refine blk_alloc ?_ _)); exact BK247.out⟩, ⟨by repeat (first | (with_reducible first | exact HB.out | apply below_alloc | apply pw_below_drewN | apply below_drew1 | refine below_set ?_ GE247.out) | exact HB.out)⟩⟩
                      case rest =>
                        clear HC21
                        try clear c1
                        try clear c2
                        try clear p2
                        try clear q2
                        try clear hx2
                        try clear c3
                        try clear c6
                        try clear c6b0
                        try clear c6b1
                        try clear p6
                        try clear c7
                        try clear c11
                        try clear c11b0
                        try clear c11b1
                        try clear c14
                        try clear c14b0
                        try clear c14b1
                        try clear c17
                        try clear c17b0
                        try clear c18
                        try clear c18b0
                        try clear c19
                        try clear c19b0
                        try clear p24
                        try clear q24
                        try clear hx24
                        try clear c25
                        try clear c25b0
                        try clear c25b1
                        try clear hcz24_0
                        try clear hcz24_1
                        try clear hcz24_2
                        try clear hcz24_3
                        try clear hcz24_4
                        try clear hfz24_0
                        try clear hfz24_1
                        try clear hfz24_2
                        try clear hfz24_3
                        try clear hfz24_4
                        try clear hx240_0
                        try clear hx240_1
                        try clear hx240_2
                        try clear hx240_3
                        try clear hx240_4
                        try clear p2
                        try clear p240
                        try clear q240
                        obtain ⟨kq, x73_20, rfl, HA, HJ20, HO_9, BK247, HB⟩ := hcut
                        cases kq with
                        | zero => exact absurd HA.out (by simp [parquetrylaw18_ClipLeft.j2])
                        | succ kj20 =>
                          have H := HA.out
                          clear HA
                          simp only [parquetrylaw18_ClipLeft.j2] at H
                          by_cases c26 : x73_20 = true
                          · subst c26
                            have H1 : (if 0 ≤ x12_2 then (if x12_2 < (l1.length : Int) then ((clip_Cut.f kj20 l0 ((rd_T29 l1 x12_2).f0) ((rd_T29 l1 x12_2).f1) ((rd_T29 l1 x12_2).f2) ((rd_T29 l1 x12_2).f3) ((rd_T29 l1 x12_2).f4) a2).bind fun bt249 => (if bt249.2.2.2.2.2 = 0 then (if x12_2 < (t234.length : Int) then (if (!(((rd_T29 t234 x12_2).f0) == bt249.1) || (!(((rd_T29 t234 x12_2).f1) == bt249.2.1) || (!(((rd_T29 t234 x12_2).f2) == bt249.2.2.1) || (!(((rd_T29 t234 x12_2).f3) == bt249.2.2.2.1) || (!(((rd_T29 t234 x12_2).f4) == bt249.2.2.2.2.1)))))) = true then (some false) else (parquetrylaw18_ClipLeft.l0 kj20 l0 l1 a2 t234 ji13 (wrap64 (x12_2 + 1)))) else (none)) else (some false))) else (none)) else (none)) = some r := by rw [if_pos rfl] at H; exact H
                            clear H
                            have H := H1
                            clear H1
                            by_cases c27 : 0 ≤ x12_2
                            · rw [if_pos c27] at H
                              have c27b0 : decide (0 ≤ x12_2) = true := decide_eq_true c27
                              clear c27
                              by_cases c28 : x12_2 < (l1.length : Int)
                              · rw [if_pos c28] at H
                                have c28b0 : decide (x12_2 < (l1.length : Int)) = true := decide_eq_true c28
                                clear c28
                                replace H := Option.bind_eq_some_iff.mp H
                                obtain ⟨⟨t249, t250, t251, t252, t253, t254⟩, A290, H⟩ := H
                                replace H : (if t254 = 0 then (if x12_2 < (t234.length : Int) then (if (!(((rd_T29 t234 x12_2).f0) == t249) || (!(((rd_T29 t234 x12_2).f1) == t250) || (!(((rd_T29 t234 x12_2).f2) == t251) || (!(((rd_T29 t234 x12_2).f3) == t252) || (!(((rd_T29 t234 x12_2).f4) == t253)))))) = true then (some false) else (parquetrylaw18_ClipLeft.l0 kj20 l0 l1 a2 t234 ji13 (wrap64 (x12_2 + 1)))) else (none)) else (some false)) = some r := H
                                have A29 := Aside0.mk A290
                                clear A290
                                by_cases c30 : t254 = 0
                                · rw [if_pos c30] at H
                                  have c30b0 : (t254 == 0) = true := beq_iff_eq.mpr c30
                                  have c30b1 : (t254 != 0) = false := bne_eq_false_iff_eq.mpr c30
                                  clear c30
                                  by_cases c31 : x12_2 < (t234.length : Int)
                                  · rw [if_pos c31] at H
                                    have c31b0 : decide (x12_2 < (t234.length : Int)) = true := decide_eq_true c31
                                    clear c31
                                    by_cases c32 : (!(((rd_T29 t234 x12_2).f0) == t249) || (!(((rd_T29 t234 x12_2).f1) == t250) || (!(((rd_T29 t234 x12_2).f2) == t251) || (!(((rd_T29 t234 x12_2).f3) == t252) || (!(((rd_T29 t234 x12_2).f4) == t253)))))) = true
                                    · rw [if_pos c32] at H
                                      have c32b0 : (!(((rd_T29 t234 x12_2).f0) == t249) || (!(((rd_T29 t234 x12_2).f1) == t250) || (!(((rd_T29 t234 x12_2).f2) == t251) || (!(((rd_T29 t234 x12_2).f3) == t252) || (!(((rd_T29 t234 x12_2).f4) == t253)))))) = true := c32
                                      clear c32
                                      obtain rfl := Option.some.inj H
                                      have p248 : 0 ≤ (x12_2 : Int) := of_decide_eq_true (by first | (with_reducible assumption) | assumption)
                                      have q248 : x12_2 < (l1.length : Int) := of_decide_eq_true (by first | (with_reducible assumption) | assumption)
                                      obtain ⟨ad248, e248, hx248_0, hx248_1, hx248_2, hx248_3, hx248_4⟩ := at_T29 HR1.out x12_2 p248 q248
                                      obtain rfl : ad240 = ad248 := (by injection e248)
                                      replace hx248_0 := (HB.out.cell (World.block_lt_of_cell? w _ hx248_0)).trans hx248_0
                                      replace hx248_1 := (HB.out.cell (World.block_lt_of_cell? w _ hx248_1)).trans hx248_1
                                      replace hx248_2 := (HB.out.cell (World.block_lt_of_cell? w _ hx248_2)).trans hx248_2
                                      replace hx248_3 := (HB.out.cell (World.block_lt_of_cell? w _ hx248_3)).trans hx248_3
                                      replace hx248_4 := (HB.out.cell (World.block_lt_of_cell? w _ hx248_4)).trans hx248_4
                                      replace p248 := eq_true p248
                                      replace q248 := eq_true q248
                                      go_wp2_with (first | (go_at_call 13; (with_reducible refine (clip_Cut.calls kj20 _ _ l0 ((rd_T29 l1 x12_2).f0) ((rd_T29 l1 x12_2).f1) ((rd_T29 l1 x12_2).f2) ((rd_T29 l1 x12_2).f3) ((rd_T29 l1 x12_2).f4) a2 t249 t250 t251 t252 t253 t254 _ ?side1 ?side2 A29.out).mono ?_); (case side1 => repeat (first | exact (Kd.C_below HR0.out HB.out) | (with_reducible refine Kd.C_alloc ?_ _) | (with_reducible refine Kd.C_drewN ?_ _) | (with_reducible refine Kd.C_drew ?_))); (case side2 => exact HC0.out); rintro e w33 ⟨rfl, hb⟩; have n0_ := Aside0.mk (Kd.R_below (by (with_reducible repeat (first | apply Kd.R_alloc | apply Kd.R_drewN | apply Kd.R_drew)); exact HO_9.out) hb); have n1_ := Aside0.mk (blk_below (g := gb247) (o := .cells #[.int .i64 t241, .int .i64 t242, .int .i64 t243, .int .i64 t244, .int .i64 t245] 29 (0, 0)) (by (with_reducible repeat (first | refine blk_drewN ?_ _ | refine blk_drew ?_ | refine blk_alloc ?_ _)); exact BK247.out) hb); have n2_ := Aside0.mk (below_step (by repeat (first | (with_reducible first | exact HB.out | apply below_alloc | apply pw_below_drewN | apply below_drew1 | refine below_set ?_ GE247.out) | exact HB.out)) hb); clear HO_9; clear BK247; clear HB; have HO_9 := n0_; have BK247 := n1_; have HB := n2_; clear n0_ n1_ n2_; (try clear hb)) | ((with_reducible refine gate_store (t := 29) (p := 13) (v := .tmp 82) rfl ?_); refine Go.Proofs.YtieffcjbbhigbaaH.block_store rfl rfl 29 (.tmp 13) (.tmp 82) rfl rfl (.agg #[.int .i64 t249, .int .i64 t250, .int .i64 t251, .int .i64 t252, .int .i64 t253]) rfl BK247.out (by rfl) (by kernel_rfl) (parquetrylaw18_ClipLeft.cells5 _ _ _ _ _) ?_; intro w34 hn hk hs hB; have n0_ := Aside0.mk (Kd.R_move HO_9.out (fun k_ hk2 => hk k_ hk2)); have n1_ := Aside0.mk (show w34.heap[gb247]? = some (.cells #[.int .i64 t249, .int .i64 t250, .int .i64 t251, .int .i64 t252, .int .i64 t253] 29 (0, 0)) from hn); have n2_ := Aside0.mk (hB _ _ HB.out GE247.out); clear HO_9 BK247 HB hn hk hs hB; have HO_9 := n0_; have BK247 := n1_; have HB := n2_; clear n0_ n1_ n2_))
                                      have p255 : 0 ≤ (x12_2 : Int) := of_decide_eq_true (by first | (with_reducible assumption) | assumption)
                                      have q255 : x12_2 < (t234.length : Int) := of_decide_eq_true (by first | (with_reducible assumption) | assumption)
                                      obtain ⟨ad255, e255, hx255_0, hx255_1, hx255_2, hx255_3, hx255_4⟩ := at_T29 (Kd.R_reads' HO_9.out).2.2 x12_2 p255 q255
                                      cases e255
                                      replace p255 := eq_true p255
                                      replace q255 := eq_true q255
                                      have hcz34_0 : w34.cell? ⟨gb247, 0, none⟩ = some (.int .i64 t249) := (blk_cell BK247.out 0).trans rfl
                                      have hcz34_1 : w34.cell? ⟨gb247, 1, none⟩ = some (.int .i64 t250) := (blk_cell BK247.out 1).trans rfl
                                      have hcz34_2 : w34.cell? ⟨gb247, 2, none⟩ = some (.int .i64 t251) := (blk_cell BK247.out 2).trans rfl
                                      have hcz34_3 : w34.cell? ⟨gb247, 3, none⟩ = some (.int .i64 t252) := (blk_cell BK247.out 3).trans rfl
                                      have hcz34_4 : w34.cell? ⟨gb247, 4, none⟩ = some (.int .i64 t253) := (blk_cell BK247.out 4).trans rfl
                                      have hfz34_0 := blk_frozen BK247.out 0
                                      have hfz34_1 := blk_frozen BK247.out 1
                                      have hfz34_2 := blk_frozen BK247.out 2
                                      have hfz34_3 := blk_frozen BK247.out 3
                                      have hfz34_4 := blk_frozen BK247.out 4
                                      go_wp2
                                      repeat (go_quiet (fail); try go_wp2)
                                      go_ret
                                      exact ⟨by first | rfl | (simp [errW_none, errW_some] <;> rfl) | (simp only [← hji12, ← hji13]; first | rfl | (simp [errW_none, errW_some] <;> rfl)) | (simp [*, errW_none, errW_some] <;> rfl), by repeat (first | (with_reducible first | exact HB.out | apply below_alloc | apply pw_below_drewN | apply below_drew1 | refine below_set ?_ GE247.out) | exact HB.out)⟩
                                    · rw [if_neg c32] at H
                                      have c32b0 : (!(((rd_T29 t234 x12_2).f0) == t249) || (!(((rd_T29 t234 x12_2).f1) == t250) || (!(((rd_T29 t234 x12_2).f2) == t251) || (!(((rd_T29 t234 x12_2).f3) == t252) || (!(((rd_T29 t234 x12_2).f4) == t253)))))) = false := by simpa using c32
                                      clear c32
                                      have H' := Aside0.mk H
                                      clear H
                                      have p248 : 0 ≤ (x12_2 : Int) := of_decide_eq_true (by first | (with_reducible assumption) | assumption)
                                      have q248 : x12_2 < (l1.length : Int) := of_decide_eq_true (by first | (with_reducible assumption) | assumption)
                                      obtain ⟨ad248, e248, hx248_0, hx248_1, hx248_2, hx248_3, hx248_4⟩ := at_T29 HR1.out x12_2 p248 q248
                                      obtain rfl : ad240 = ad248 := (by injection e248)
                                      replace hx248_0 := (HB.out.cell (World.block_lt_of_cell? w _ hx248_0)).trans hx248_0
                                      replace hx248_1 := (HB.out.cell (World.block_lt_of_cell? w _ hx248_1)).trans hx248_1
                                      replace hx248_2 := (HB.out.cell (World.block_lt_of_cell? w _ hx248_2)).trans hx248_2
                                      replace hx248_3 := (HB.out.cell (World.block_lt_of_cell? w _ hx248_3)).trans hx248_3
                                      replace hx248_4 := (HB.out.cell (World.block_lt_of_cell? w _ hx248_4)).trans hx248_4
                                      replace p248 := eq_true p248
                                      replace q248 := eq_true q248
                                      go_wp2_with (first | (go_at_call 13; (with_reducible refine (clip_Cut.calls kj20 _ _ l0 ((rd_T29 l1 x12_2).f0) ((rd_T29 l1 x12_2).f1) ((rd_T29 l1 x12_2).f2) ((rd_T29 l1 x12_2).f3) ((rd_T29 l1 x12_2).f4) a2 t249 t250 t251 t252 t253 t254 _ ?side1 ?side2 A29.out).mono ?_); (case side1 => repeat (first | exact (Kd.C_below HR0.out HB.out) | (with_reducible refine Kd.C_alloc ?_ _) | (with_reducible refine Kd.C_drewN ?_ _) | (with_reducible refine Kd.C_drew ?_))); (case side2 => exact HC0.out); rintro e w35 ⟨rfl, hb⟩; have n0_ := Aside0.mk (Kd.R_below (by (with_reducible repeat (first | apply Kd.R_alloc | apply Kd.R_drewN | apply Kd.R_drew)); exact HO_9.out) hb); have n1_ := Aside0.mk (blk_below (g := gb247) (o := .cells #[.int .i64 t241, .int .i64 t242, .int .i64 t243, .int .i64 t244, .int .i64 t245] 29 (0, 0)) (by (with_reducible repeat (first | refine blk_drewN ?_ _ | refine blk_drew ?_ | refine blk_alloc ?_ _)); exact BK247.out) hb); have n2_ := Aside0.mk (below_step (by repeat (first | (with_reducible first | exact HB.out | apply below_alloc | apply pw_below_drewN | apply below_drew1 | refine below_set ?_ GE247.out) | exact HB.out)) hb); clear HO_9; clear BK247; clear HB; have HO_9 := n0_; have BK247 := n1_; have HB := n2_; clear n0_ n1_ n2_; (try clear hb)) | ((with_reducible refine gate_store (t := 29) (p := 13) (v := .tmp 82) rfl ?_); refine Go.Proofs.YtieffcjbbhigbaaH.block_store rfl rfl 29 (.tmp 13) (.tmp 82) rfl rfl (.agg #[.int .i64 t249, .int .i64 t250, .int .i64 t251, .int .i64 t252, .int .i64 t253]) rfl BK247.out (by rfl) (by kernel_rfl) (parquetrylaw18_ClipLeft.cells5 _ _ _ _ _) ?_; intro w34 hn hk hs hB; have n0_ := Aside0.mk (Kd.R_move HO_9.out (fun k_ hk2 => hk k_ hk2)); have n1_ := Aside0.mk (show w34.heap[gb247]? = some (.cells #[.int .i64 t249, .int .i64 t250, .int .i64 t251, .int .i64 t252, .int .i64 t253] 29 (0, 0)) from hn); have n2_ := Aside0.mk (hB _ _ HB.out GE247.out); clear HO_9 BK247 HB hn hk hs hB; have HO_9 := n0_; have BK247 := n1_; have HB := n2_; clear n0_ n1_ n2_))
                                      have p255 : 0 ≤ (x12_2 : Int) := of_decide_eq_true (by first | (with_reducible assumption) | assumption)
                                      have q255 : x12_2 < (t234.length : Int) := of_decide_eq_true (by first | (with_reducible assumption) | assumption)
                                      obtain ⟨ad255, e255, hx255_0, hx255_1, hx255_2, hx255_3, hx255_4⟩ := at_T29 (Kd.R_reads' HO_9.out).2.2 x12_2 p255 q255
                                      cases e255
                                      replace p255 := eq_true p255
                                      replace q255 := eq_true q255
                                      have hcz34_0 : w34.cell? ⟨gb247, 0, none⟩ = some (.int .i64 t249) := (blk_cell BK247.out 0).trans rfl
                                      have hcz34_1 : w34.cell? ⟨gb247, 1, none⟩ = some (.int .i64 t250) := (blk_cell BK247.out 1).trans rfl
                                      have hcz34_2 : w34.cell? ⟨gb247, 2, none⟩ = some (.int .i64 t251) := (blk_cell BK247.out 2).trans rfl
                                      have hcz34_3 : w34.cell? ⟨gb247, 3, none⟩ = some (.int .i64 t252) := (blk_cell BK247.out 3).trans rfl
                                      have hcz34_4 : w34.cell? ⟨gb247, 4, none⟩ = some (.int .i64 t253) := (blk_cell BK247.out 4).trans rfl
                                      have hfz34_0 := blk_frozen BK247.out 0
                                      have hfz34_1 := blk_frozen BK247.out 1
                                      have hfz34_2 := blk_frozen BK247.out 2
                                      have hfz34_3 := blk_frozen BK247.out 3
                                      have hfz34_4 := blk_frozen BK247.out 4
                                      go_wp2
                                      repeat (go_quiet (fail); try go_wp2)
                                      go_roundg kj20
                                      case measure => have := HJ4.out; have := HK2.out; have := HJ20.out; omega
                                      case rel => exact ⟨(wrap64 (x12_2 + 1)), (by first | rfl | (simp; done) | (simp [*]; done)), H', ⟨by have := HJ4.out; have := HK2.out; have := HJ20.out; omega⟩, ⟨by (with_reducible repeat (first | apply Kd.R_alloc | apply Kd.R_drewN | apply Kd.R_drew)); exact Kd.R_mono HO_9.out (fun _ hk => trivial)⟩, ⟨by repeat (first | (with_reducible first | exact HB.out | apply below_alloc | apply pw_below_drewN | apply below_drew1 | refine below_set ?_ GE247.out) | exact HB.out)⟩⟩
                                  · rw [if_neg c31] at H
                                    exact absurd H (by simp)
                                · rw [if_neg c30] at H
                                  have c30b0 : (t254 == 0) = false := beq_eq_false_iff_ne.mpr c30
                                  have c30b1 : (t254 != 0) = true := bne_iff_ne.mpr c30
                                  obtain rfl := Option.some.inj H
                                  have p248 : 0 ≤ (x12_2 : Int) := of_decide_eq_true (by first | (with_reducible assumption) | assumption)
                                  have q248 : x12_2 < (l1.length : Int) := of_decide_eq_true (by first | (with_reducible assumption) | assumption)
                                  obtain ⟨ad248, e248, hx248_0, hx248_1, hx248_2, hx248_3, hx248_4⟩ := at_T29 HR1.out x12_2 p248 q248
                                  obtain rfl : ad240 = ad248 := (by injection e248)
                                  replace hx248_0 := (HB.out.cell (World.block_lt_of_cell? w _ hx248_0)).trans hx248_0
                                  replace hx248_1 := (HB.out.cell (World.block_lt_of_cell? w _ hx248_1)).trans hx248_1
                                  replace hx248_2 := (HB.out.cell (World.block_lt_of_cell? w _ hx248_2)).trans hx248_2
                                  replace hx248_3 := (HB.out.cell (World.block_lt_of_cell? w _ hx248_3)).trans hx248_3
                                  replace hx248_4 := (HB.out.cell (World.block_lt_of_cell? w _ hx248_4)).trans hx248_4
                                  replace p248 := eq_true p248
                                  replace q248 := eq_true q248
                                  go_wp2_with (first | (go_at_call 13; (with_reducible refine (clip_Cut.calls kj20 _ _ l0 ((rd_T29 l1 x12_2).f0) ((rd_T29 l1 x12_2).f1) ((rd_T29 l1 x12_2).f2) ((rd_T29 l1 x12_2).f3) ((rd_T29 l1 x12_2).f4) a2 t249 t250 t251 t252 t253 t254 _ ?side1 ?side2 A29.out).mono ?_); (case side1 => repeat (first | exact (Kd.C_below HR0.out HB.out) | (with_reducible refine Kd.C_alloc ?_ _) | (with_reducible refine Kd.C_drewN ?_ _) | (with_reducible refine Kd.C_drew ?_))); (case side2 => exact HC0.out); rintro e w37 ⟨rfl, hb⟩; have n0_ := Aside0.mk (Kd.R_below (by (with_reducible repeat (first | apply Kd.R_alloc | apply Kd.R_drewN | apply Kd.R_drew)); exact HO_9.out) hb); have n1_ := Aside0.mk (blk_below (g := gb247) (o := .cells #[.int .i64 t241, .int .i64 t242, .int .i64 t243, .int .i64 t244, .int .i64 t245] 29 (0, 0)) (by (with_reducible repeat (first | refine blk_drewN ?_ _ | refine blk_drew ?_ | refine blk_alloc ?_ _)); exact BK247.out) hb); have n2_ := Aside0.mk (below_step (by repeat (first | (with_reducible first | exact HB.out | apply below_alloc | apply pw_below_drewN | apply below_drew1 | refine below_set ?_ GE247.out) | exact HB.out)) hb); clear HO_9; clear BK247; clear HB; have HO_9 := n0_; have BK247 := n1_; have HB := n2_; clear n0_ n1_ n2_; (try clear hb); (try clear hb2); (try clear hk); (try clear hi); have hcz38_0 : w37.cell? ⟨gb247, 0, none⟩ = some (.int .i64 t241) := (blk_cell BK247.out 0).trans rfl; have hcz38_1 : w37.cell? ⟨gb247, 1, none⟩ = some (.int .i64 t242) := (blk_cell BK247.out 1).trans rfl; have hcz38_2 : w37.cell? ⟨gb247, 2, none⟩ = some (.int .i64 t243) := (blk_cell BK247.out 2).trans rfl; have hcz38_3 : w37.cell? ⟨gb247, 3, none⟩ = some (.int .i64 t244) := (blk_cell BK247.out 3).trans rfl; have hcz38_4 : w37.cell? ⟨gb247, 4, none⟩ = some (.int .i64 t245) := (blk_cell BK247.out 4).trans rfl; have hfz38_0 := blk_frozen BK247.out 0; have hfz38_1 := blk_frozen BK247.out 1; have hfz38_2 := blk_frozen BK247.out 2; have hfz38_3 := blk_frozen BK247.out 3; have hfz38_4 := blk_frozen BK247.out 4))
                                  repeat (go_quiet (first | (go_at_call 13; (with_reducible refine (clip_Cut.calls kj20 _ _ l0 ((rd_T29 l1 x12_2).f0) ((rd_T29 l1 x12_2).f1) ((rd_T29 l1 x12_2).f2) ((rd_T29 l1 x12_2).f3) ((rd_T29 l1 x12_2).f4) a2 t249 t250 t251 t252 t253 t254 _ ?side1 ?side2 A29.out).mono ?_); (case side1 => repeat (first | exact (Kd.C_below HR0.out HB.out) | (with_reducible refine Kd.C_alloc ?_ _) | (with_reducible refine Kd.C_drewN ?_ _) | (with_reducible refine Kd.C_drew ?_))); (case side2 => exact HC0.out); rintro e w37 ⟨rfl, hb⟩; have n0_ := Aside0.mk (Kd.R_below (by (with_reducible repeat (first | apply Kd.R_alloc | apply Kd.R_drewN | apply Kd.R_drew)); exact HO_9.out) hb); have n1_ := Aside0.mk (blk_below (g := gb247) (o := .cells #[.int .i64 t241, .int .i64 t242, .int .i64 t243, .int .i64 t244, .int .i64 t245] 29 (0, 0)) (by (with_reducible repeat (first | refine blk_drewN ?_ _ | refine blk_drew ?_ | refine blk_alloc ?_ _)); exact BK247.out) hb); have n2_ := Aside0.mk (below_step (by repeat (first | (with_reducible first | exact HB.out | apply below_alloc | apply pw_below_drewN | apply below_drew1 | refine below_set ?_ GE247.out) | exact HB.out)) hb); clear HO_9; clear BK247; clear HB; have HO_9 := n0_; have BK247 := n1_; have HB := n2_; clear n0_ n1_ n2_; (try clear hb); (try clear hb2); (try clear hk); (try clear hi); have hcz38_0 : w37.cell? ⟨gb247, 0, none⟩ = some (.int .i64 t241) := (blk_cell BK247.out 0).trans rfl; have hcz38_1 : w37.cell? ⟨gb247, 1, none⟩ = some (.int .i64 t242) := (blk_cell BK247.out 1).trans rfl; have hcz38_2 : w37.cell? ⟨gb247, 2, none⟩ = some (.int .i64 t243) := (blk_cell BK247.out 2).trans rfl; have hcz38_3 : w37.cell? ⟨gb247, 3, none⟩ = some (.int .i64 t244) := (blk_cell BK247.out 3).trans rfl; have hcz38_4 : w37.cell? ⟨gb247, 4, none⟩ = some (.int .i64 t245) := (blk_cell BK247.out 4).trans rfl; have hfz38_0 := blk_frozen BK247.out 0; have hfz38_1 := blk_frozen BK247.out 1; have hfz38_2 := blk_frozen BK247.out 2; have hfz38_3 := blk_frozen BK247.out 3; have hfz38_4 := blk_frozen BK247.out 4)); try go_wp2_with (first | (go_at_call 13; (with_reducible refine (clip_Cut.calls kj20 _ _ l0 ((rd_T29 l1 x12_2).f0) ((rd_T29 l1 x12_2).f1) ((rd_T29 l1 x12_2).f2) ((rd_T29 l1 x12_2).f3) ((rd_T29 l1 x12_2).f4) a2 t249 t250 t251 t252 t253 t254 _ ?side1 ?side2 A29.out).mono ?_); (case side1 => repeat (first | exact (Kd.C_below HR0.out HB.out) | (with_reducible refine Kd.C_alloc ?_ _) | (with_reducible refine Kd.C_drewN ?_ _) | (with_reducible refine Kd.C_drew ?_))); (case side2 => exact HC0.out); rintro e w37 ⟨rfl, hb⟩; have n0_ := Aside0.mk (Kd.R_below (by (with_reducible repeat (first | apply Kd.R_alloc | apply Kd.R_drewN | apply Kd.R_drew)); exact HO_9.out) hb); have n1_ := Aside0.mk (blk_below (g := gb247) (o := .cells #[.int .i64 t241, .int .i64 t242, .int .i64 t243, .int .i64 t244, .int .i64 t245] 29 (0, 0)) (by (with_reducible repeat (first | refine blk_drewN ?_ _ | refine blk_drew ?_ | refine blk_alloc ?_ _)); exact BK247.out) hb); have n2_ := Aside0.mk (below_step (by repeat (first | (with_reducible first | exact HB.out | apply below_alloc | apply pw_below_drewN | apply below_drew1 | refine below_set ?_ GE247.out) | exact HB.out)) hb); clear HO_9; clear BK247; clear HB; have HO_9 := n0_; have BK247 := n1_; have HB := n2_; clear n0_ n1_ n2_; (try clear hb); (try clear hb2); (try clear hk); (try clear hi); have hcz38_0 : w37.cell? ⟨gb247, 0, none⟩ = some (.int .i64 t241) := (blk_cell BK247.out 0).trans rfl; have hcz38_1 : w37.cell? ⟨gb247, 1, none⟩ = some (.int .i64 t242) := (blk_cell BK247.out 1).trans rfl; have hcz38_2 : w37.cell? ⟨gb247, 2, none⟩ = some (.int .i64 t243) := (blk_cell BK247.out 2).trans rfl; have hcz38_3 : w37.cell? ⟨gb247, 3, none⟩ = some (.int .i64 t244) := (blk_cell BK247.out 3).trans rfl; have hcz38_4 : w37.cell? ⟨gb247, 4, none⟩ = some (.int .i64 t245) := (blk_cell BK247.out 4).trans rfl; have hfz38_0 := blk_frozen BK247.out 0; have hfz38_1 := blk_frozen BK247.out 1; have hfz38_2 := blk_frozen BK247.out 2; have hfz38_3 := blk_frozen BK247.out 3; have hfz38_4 := blk_frozen BK247.out 4)))
                                  go_ret
                                  exact ⟨by first | rfl | (simp [errW_none, errW_some] <;> rfl) | (simp only [← hji12, ← hji13]; first | rfl | (simp [errW_none, errW_some] <;> rfl)) | (simp [*, errW_none, errW_some] <;> rfl), by repeat (first | (with_reducible first | exact HB.out | apply below_alloc | apply pw_below_drewN | apply below_drew1 | refine below_set ?_ GE247.out) | exact HB.out)⟩
                              · rw [if_neg c28] at H
                                exact absurd H (by simp)
                            · rw [if_neg c27] at H
                              exact absurd H (by simp)
                          · replace c26 := Bool.eq_false_iff.mpr c26
                            subst c26
                            have H1 : (if t246 = 0 then (if 0 ≤ x12_2 then (if x12_2 < (t234.length : Int) then (if (!(((rd_T29 t234 x12_2).f0) == t241) || (!(((rd_T29 t234 x12_2).f1) == t242) || (!(((rd_T29 t234 x12_2).f2) == t243) || (!(((rd_T29 t234 x12_2).f3) == t244) || (!(((rd_T29 t234 x12_2).f4) == t245)))))) = true then (some false) else (parquetrylaw18_ClipLeft.l0 kj20 l0 l1 a2 t234 ji13 (wrap64 (x12_2 + 1)))) else (none)) else (none)) else (some false)) = some r := by rw [if_neg (show ¬ (false = true) by decide)] at H; exact H
                            clear H
                            have H := H1
                            clear H1
                            by_cases c39 : t246 = 0
                            · rw [if_pos c39] at H
                              have c39b0 : (t246 == 0) = true := beq_iff_eq.mpr c39
                              have c39b1 : (t246 != 0) = false := bne_eq_false_iff_eq.mpr c39
                              clear c39
                              by_cases c40 : 0 ≤ x12_2
                              · rw [if_pos c40] at H
                                have c40b0 : decide (0 ≤ x12_2) = true := decide_eq_true c40
                                clear c40
                                by_cases c41 : x12_2 < (t234.length : Int)
                                · rw [if_pos c41] at H
                                  have c41b0 : decide (x12_2 < (t234.length : Int)) = true := decide_eq_true c41
                                  clear c41
                                  by_cases c42 : (!(((rd_T29 t234 x12_2).f0) == t241) || (!(((rd_T29 t234 x12_2).f1) == t242) || (!(((rd_T29 t234 x12_2).f2) == t243) || (!(((rd_T29 t234 x12_2).f3) == t244) || (!(((rd_T29 t234 x12_2).f4) == t245)))))) = true
                                  · rw [if_pos c42] at H
                                    have c42b0 : (!(((rd_T29 t234 x12_2).f0) == t241) || (!(((rd_T29 t234 x12_2).f1) == t242) || (!(((rd_T29 t234 x12_2).f2) == t243) || (!(((rd_T29 t234 x12_2).f3) == t244) || (!(((rd_T29 t234 x12_2).f4) == t245)))))) = true := c42
                                    clear c42
                                    obtain rfl := Option.some.inj H
                                    have p256 : 0 ≤ (x12_2 : Int) := of_decide_eq_true (by first | (with_reducible assumption) | assumption)
                                    have q256 : x12_2 < (t234.length : Int) := of_decide_eq_true (by first | (with_reducible assumption) | assumption)
                                    obtain ⟨ad256, e256, hx256_0, hx256_1, hx256_2, hx256_3, hx256_4⟩ := at_T29 (Kd.R_reads' HO_9.out).2.2 x12_2 p256 q256
                                    cases e256
                                    replace p256 := eq_true p256
                                    replace q256 := eq_true q256
                                    have hcz43_0 : wc.cell? ⟨gb247, 0, none⟩ = some (.int .i64 t241) := (blk_cell BK247.out 0).trans rfl
                                    have hcz43_1 : wc.cell? ⟨gb247, 1, none⟩ = some (.int .i64 t242) := (blk_cell BK247.out 1).trans rfl
                                    have hcz43_2 : wc.cell? ⟨gb247, 2, none⟩ = some (.int .i64 t243) := (blk_cell BK247.out 2).trans rfl
                                    have hcz43_3 : wc.cell? ⟨gb247, 3, none⟩ = some (.int .i64 t244) := (blk_cell BK247.out 3).trans rfl
                                    have hcz43_4 : wc.cell? ⟨gb247, 4, none⟩ = some (.int .i64 t245) := (blk_cell BK247.out 4).trans rfl
                                    have hfz43_0 := blk_frozen BK247.out 0
                                    have hfz43_1 := blk_frozen BK247.out 1
                                    have hfz43_2 := blk_frozen BK247.out 2
                                    have hfz43_3 := blk_frozen BK247.out 3
                                    have hfz43_4 := blk_frozen BK247.out 4
                                    go_wp2
                                    repeat (go_quiet (fail); try go_wp2)
                                    go_ret
                                    exact ⟨by first | rfl | (simp [errW_none, errW_some] <;> rfl) | (simp only [← hji12, ← hji13]; first | rfl | (simp [errW_none, errW_some] <;> rfl)) | (simp [*, errW_none, errW_some] <;> rfl), by repeat (first | (with_reducible first | exact HB.out | apply below_alloc | apply pw_below_drewN | apply below_drew1 | refine below_set ?_ GE247.out) | exact HB.out)⟩
                                  · rw [if_neg c42] at H
                                    have c42b0 : (!(((rd_T29 t234 x12_2).f0) == t241) || (!(((rd_T29 t234 x12_2).f1) == t242) || (!(((rd_T29 t234 x12_2).f2) == t243) || (!(((rd_T29 t234 x12_2).f3) == t244) || (!(((rd_T29 t234 x12_2).f4) == t245)))))) = false := by simpa using c42
                                    clear c42
                                    have H' := Aside0.mk H
                                    clear H
                                    have p256 : 0 ≤ (x12_2 : Int) := of_decide_eq_true (by first | (with_reducible assumption) | assumption)
                                    have q256 : x12_2 < (t234.length : Int) := of_decide_eq_true (by first | (with_reducible assumption) | assumption)
                                    obtain ⟨ad256, e256, hx256_0, hx256_1, hx256_2, hx256_3, hx256_4⟩ := at_T29 (Kd.R_reads' HO_9.out).2.2 x12_2 p256 q256
                                    cases e256
                                    replace p256 := eq_true p256
                                    replace q256 := eq_true q256
                                    have hcz44_0 : wc.cell? ⟨gb247, 0, none⟩ = some (.int .i64 t241) := (blk_cell BK247.out 0).trans rfl
                                    have hcz44_1 : wc.cell? ⟨gb247, 1, none⟩ = some (.int .i64 t242) := (blk_cell BK247.out 1).trans rfl
                                    have hcz44_2 : wc.cell? ⟨gb247, 2, none⟩ = some (.int .i64 t243) := (blk_cell BK247.out 2).trans rfl
                                    have hcz44_3 : wc.cell? ⟨gb247, 3, none⟩ = some (.int .i64 t244) := (blk_cell BK247.out 3).trans rfl
                                    have hcz44_4 : wc.cell? ⟨gb247, 4, none⟩ = some (.int .i64 t245) := (blk_cell BK247.out 4).trans rfl
                                    have hfz44_0 := blk_frozen BK247.out 0
                                    have hfz44_1 := blk_frozen BK247.out 1
                                    have hfz44_2 := blk_frozen BK247.out 2
                                    have hfz44_3 := blk_frozen BK247.out 3
                                    have hfz44_4 := blk_frozen BK247.out 4
                                    go_wp2
                                    repeat (go_quiet (fail); try go_wp2)
                                    go_roundg kj20
                                    case measure => have := HJ4.out; have := HK2.out; have := HJ20.out; omega
                                    case rel => exact ⟨(wrap64 (x12_2 + 1)), (by first | rfl | (simp; done) | (simp [*]; done)), H', ⟨by have := HJ4.out; have := HK2.out; have := HJ20.out; omega⟩, ⟨by (with_reducible repeat (first | apply Kd.R_alloc | apply Kd.R_drewN | apply Kd.R_drew)); exact Kd.R_mono HO_9.out (fun _ hk => trivial)⟩, ⟨by repeat (first | (with_reducible first | exact HB.out | apply below_alloc | apply pw_below_drewN | apply below_drew1 | refine below_set ?_ GE247.out) | exact HB.out)⟩⟩
                                · rw [if_neg c41] at H
                                  exact absurd H (by simp)
                              · rw [if_neg c40] at H
                                exact absurd H (by simp)
                            · rw [if_neg c39] at H
                              have c39b0 : (t246 == 0) = false := beq_eq_false_iff_ne.mpr c39
                              have c39b1 : (t246 != 0) = true := bne_iff_ne.mpr c39
                              obtain rfl := Option.some.inj H
                              go_wp2
                              repeat (go_quiet (fail); try go_wp2)
                              go_ret
                              exact ⟨by first | rfl | (simp [errW_none, errW_some] <;> rfl) | (simp only [← hji12, ← hji13]; first | rfl | (simp [errW_none, errW_some] <;> rfl)) | (simp [*, errW_none, errW_some] <;> rfl), by repeat (first | (with_reducible first | exact HB.out | apply below_alloc | apply pw_below_drewN | apply below_drew1 | refine below_set ?_ GE247.out) | exact HB.out)⟩
                    · rw [if_neg c19] at H
                      exact absurd H (by simp)
                  · rw [if_neg c18] at H
                    exact absurd H (by simp)
                · rw [if_neg c17] at H
                  have c17b0 : decide (x12_2 < ji13) = false := decide_eq_false c17
                  clear c17
                  replace H := Option.bind_eq_some_iff.mp H
                  obtain ⟨t239, A450, H⟩ := H
                  replace H : (some t239) = some r := H
                  have A45 := Aside0.mk A450
                  clear A450
                  obtain rfl := Option.some.inj H
                  go_wp2_with (first | (go_at_call 10; (with_reducible refine (parquetrylaw18_awake.calls k2  t239 _ A45.out).mono ?_); rintro e w46 ⟨rfl, hb⟩; have n0_ := Aside0.mk (Kd.R_below (by (with_reducible repeat (first | apply Kd.R_alloc | apply Kd.R_drewN | apply Kd.R_drew)); exact HO_9.out) hb); have n1_ := Aside0.mk (below_step (by repeat (first | (with_reducible first | exact HB.out | apply below_alloc | apply pw_below_drewN | apply below_drew1) | exact HB.out)) hb); clear HO_9; clear HB; have HO_9 := n0_; have HB := n1_; clear n0_ n1_; (try clear hb); (try clear hb2); (try clear hk); (try clear hi)))
                  repeat (go_quiet (first | (go_at_call 10; (with_reducible refine (parquetrylaw18_awake.calls k2  t239 _ A45.out).mono ?_); rintro e w46 ⟨rfl, hb⟩; have n0_ := Aside0.mk (Kd.R_below (by (with_reducible repeat (first | apply Kd.R_alloc | apply Kd.R_drewN | apply Kd.R_drew)); exact HO_9.out) hb); have n1_ := Aside0.mk (below_step (by repeat (first | (with_reducible first | exact HB.out | apply below_alloc | apply pw_below_drewN | apply below_drew1) | exact HB.out)) hb); clear HO_9; clear HB; have HO_9 := n0_; have HB := n1_; clear n0_ n1_; (try clear hb); (try clear hb2); (try clear hk); (try clear hi))); try go_wp2_with (first | (go_at_call 10; (with_reducible refine (parquetrylaw18_awake.calls k2  t239 _ A45.out).mono ?_); rintro e w46 ⟨rfl, hb⟩; have n0_ := Aside0.mk (Kd.R_below (by (with_reducible repeat (first | apply Kd.R_alloc | apply Kd.R_drewN | apply Kd.R_drew)); exact HO_9.out) hb); have n1_ := Aside0.mk (below_step (by repeat (first | (with_reducible first | exact HB.out | apply below_alloc | apply pw_below_drewN | apply below_drew1) | exact HB.out)) hb); clear HO_9; clear HB; have HO_9 := n0_; have HB := n1_; clear n0_ n1_; (try clear hb); (try clear hb2); (try clear hk); (try clear hi))))
                  go_ret
                  exact ⟨by first | rfl | (simp [errW_none, errW_some] <;> rfl) | (simp only [← hji12, ← hji13]; first | rfl | (simp [errW_none, errW_some] <;> rfl)) | (simp [*, errW_none, errW_some] <;> rfl), by repeat (first | (with_reducible first | exact HB.out | apply below_alloc | apply pw_below_drewN | apply below_drew1) | exact HB.out)⟩
          · rw [if_neg c14] at H
            have c14b0 : ((t234.length : Int) == (ji13)) = false := beq_eq_false_iff_ne.mpr c14
            have c14b1 : ((t234.length : Int) != (ji13)) = true := bne_iff_ne.mpr c14
            obtain rfl := Option.some.inj H
            go_wp2_with (first | (go_at_call 11; (with_reducible refine (clip_All.calls kj4 _ _ l0 _ _ l1 a2 a3 t234 t235 _ ?side1 ?side2 ?side3 ?side4 A10.out).mono ?_); (case side1 => repeat (first | exact (Kd.C_below HR0.out HB.out) | (with_reducible refine Kd.C_alloc ?_ _) | (with_reducible refine Kd.C_drewN ?_ _) | (with_reducible refine Kd.C_drew ?_))); (case side2 => exact HC0.out); (case side3 => repeat (first | exact (Kd.C_below HR1.out HB.out) | (with_reducible refine Kd.C_alloc ?_ _) | (with_reducible refine Kd.C_drewN ?_ _) | (with_reducible refine Kd.C_drew ?_))); (case side4 => exact HC1.out); rintro e w47 ⟨v236, rfl, ho0, hb⟩; have n0_ := Aside0.mk (Kd.R_lower ho0 (below_size (by repeat (first | (with_reducible first | exact HB.out | apply below_alloc | apply pw_below_drewN | apply below_drew1) | exact HB.out)))); have n1_ := Aside0.mk (below_step (by repeat (first | (with_reducible first | exact HB.out | apply below_alloc | apply pw_below_drewN | apply below_drew1) | exact HB.out)) hb); clear HB; have HO237 := n0_; have HB := n1_; clear n0_ n1_; (try clear hb); (try clear hb2); (try clear hk); (try clear hi); (try clear ho0); obtain ⟨Ao48, co48, eo48⟩ := Kd.R_slice HO237.out; subst eo48))
            repeat (go_quiet (first | (go_at_call 11; (with_reducible refine (clip_All.calls kj4 _ _ l0 _ _ l1 a2 a3 t234 t235 _ ?side1 ?side2 ?side3 ?side4 A10.out).mono ?_); (case side1 => repeat (first | exact (Kd.C_below HR0.out HB.out) | (with_reducible refine Kd.C_alloc ?_ _) | (with_reducible refine Kd.C_drewN ?_ _) | (with_reducible refine Kd.C_drew ?_))); (case side2 => exact HC0.out); (case side3 => repeat (first | exact (Kd.C_below HR1.out HB.out) | (with_reducible refine Kd.C_alloc ?_ _) | (with_reducible refine Kd.C_drewN ?_ _) | (with_reducible refine Kd.C_drew ?_))); (case side4 => exact HC1.out); rintro e w47 ⟨v236, rfl, ho0, hb⟩; have n0_ := Aside0.mk (Kd.R_lower ho0 (below_size (by repeat (first | (with_reducible first | exact HB.out | apply below_alloc | apply pw_below_drewN | apply below_drew1) | exact HB.out)))); have n1_ := Aside0.mk (below_step (by repeat (first | (with_reducible first | exact HB.out | apply below_alloc | apply pw_below_drewN | apply below_drew1) | exact HB.out)) hb); clear HB; have HO237 := n0_; have HB := n1_; clear n0_ n1_; (try clear hb); (try clear hb2); (try clear hk); (try clear hi); (try clear ho0); obtain ⟨Ao48, co48, eo48⟩ := Kd.R_slice HO237.out; subst eo48)); try go_wp2_with (first | (go_at_call 11; (with_reducible refine (clip_All.calls kj4 _ _ l0 _ _ l1 a2 a3 t234 t235 _ ?side1 ?side2 ?side3 ?side4 A10.out).mono ?_); (case side1 => repeat (first | exact (Kd.C_below HR0.out HB.out) | (with_reducible refine Kd.C_alloc ?_ _) | (with_reducible refine Kd.C_drewN ?_ _) | (with_reducible refine Kd.C_drew ?_))); (case side2 => exact HC0.out); (case side3 => repeat (first | exact (Kd.C_below HR1.out HB.out) | (with_reducible refine Kd.C_alloc ?_ _) | (with_reducible refine Kd.C_drewN ?_ _) | (with_reducible refine Kd.C_drew ?_))); (case side4 => exact HC1.out); rintro e w47 ⟨v236, rfl, ho0, hb⟩; have n0_ := Aside0.mk (Kd.R_lower ho0 (below_size (by repeat (first | (with_reducible first | exact HB.out | apply below_alloc | apply pw_below_drewN | apply below_drew1) | exact HB.out)))); have n1_ := Aside0.mk (below_step (by repeat (first | (with_reducible first | exact HB.out | apply below_alloc | apply pw_below_drewN | apply below_drew1) | exact HB.out)) hb); clear HB; have HO237 := n0_; have HB := n1_; clear n0_ n1_; (try clear hb); (try clear hb2); (try clear hk); (try clear hi); (try clear ho0); obtain ⟨Ao48, co48, eo48⟩ := Kd.R_slice HO237.out; subst eo48)))
            go_ret
            exact ⟨by first | rfl | (simp [errW_none, errW_some] <;> rfl) | (simp only [← hji12, ← hji13]; first | rfl | (simp [errW_none, errW_some] <;> rfl)) | (simp [*, errW_none, errW_some] <;> rfl), by repeat (first | (with_reducible first | exact HB.out | apply below_alloc | apply pw_below_drewN | apply below_drew1) | exact HB.out)⟩
        · rw [if_neg c11] at H
          have c11b0 : (t235 == 0) = false := beq_eq_false_iff_ne.mpr c11
          have c11b1 : (t235 != 0) = true := bne_iff_ne.mpr c11
          by_cases c49 : (t234.length : Int) = 0
          · rw [if_pos c49] at H
            have c49b0 : ((t234.length : Int) == 0) = true := beq_iff_eq.mpr c49
            have c49b1 : ((t234.length : Int) != 0) = false := bne_eq_false_iff_eq.mpr c49
            clear c49
            replace H := Option.bind_eq_some_iff.mp H
            obtain ⟨t238, A500, H⟩ := H
            replace H : (some t238) = some r := H
            have A50 := Aside0.mk A500
            clear A500
            obtain rfl := Option.some.inj H
            go_wp2_with (first | (go_at_call 11; (with_reducible refine (clip_All.calls kj4 _ _ l0 _ _ l1 a2 a3 t234 t235 _ ?side1 ?side2 ?side3 ?side4 A10.out).mono ?_); (case side1 => repeat (first | exact (Kd.C_below HR0.out HB.out) | (with_reducible refine Kd.C_alloc ?_ _) | (with_reducible refine Kd.C_drewN ?_ _) | (with_reducible refine Kd.C_drew ?_))); (case side2 => exact HC0.out); (case side3 => repeat (first | exact (Kd.C_below HR1.out HB.out) | (with_reducible refine Kd.C_alloc ?_ _) | (with_reducible refine Kd.C_drewN ?_ _) | (with_reducible refine Kd.C_drew ?_))); (case side4 => exact HC1.out); rintro e w51 ⟨v236, rfl, ho0, hb⟩; have n0_ := Aside0.mk (Kd.R_lower ho0 (below_size (by repeat (first | (with_reducible first | exact HB.out | apply below_alloc | apply pw_below_drewN | apply below_drew1) | exact HB.out)))); have n1_ := Aside0.mk (below_step (by repeat (first | (with_reducible first | exact HB.out | apply below_alloc | apply pw_below_drewN | apply below_drew1) | exact HB.out)) hb); clear HB; have HO237 := n0_; have HB := n1_; clear n0_ n1_; (try clear hb); (try clear hb2); (try clear hk); (try clear hi); (try clear ho0); obtain ⟨Ao52, co52, eo52⟩ := Kd.R_slice HO237.out; subst eo52) | (go_at_call 10; (with_reducible refine (parquetrylaw18_awake.calls kj4  t238 _ A50.out).mono ?_); rintro e w53 ⟨rfl, hb⟩; have n0_ := Aside0.mk (Kd.R_below (by (with_reducible repeat (first | apply Kd.R_alloc | apply Kd.R_drewN | apply Kd.R_drew)); exact HO237.out) hb); have n1_ := Aside0.mk (below_step (by repeat (first | (with_reducible first | exact HB.out | apply below_alloc | apply pw_below_drewN | apply below_drew1) | exact HB.out)) hb); clear HO237; clear HB; have HO237 := n0_; have HB := n1_; clear n0_ n1_; (try clear hb); (try clear hb2); (try clear hk); (try clear hi)))
            repeat (go_quiet (first | (go_at_call 11; (with_reducible refine (clip_All.calls kj4 _ _ l0 _ _ l1 a2 a3 t234 t235 _ ?side1 ?side2 ?side3 ?side4 A10.out).mono ?_); (case side1 => repeat (first | exact (Kd.C_below HR0.out HB.out) | (with_reducible refine Kd.C_alloc ?_ _) | (with_reducible refine Kd.C_drewN ?_ _) | (with_reducible refine Kd.C_drew ?_))); (case side2 => exact HC0.out); (case side3 => repeat (first | exact (Kd.C_below HR1.out HB.out) | (with_reducible refine Kd.C_alloc ?_ _) | (with_reducible refine Kd.C_drewN ?_ _) | (with_reducible refine Kd.C_drew ?_))); (case side4 => exact HC1.out); rintro e w51 ⟨v236, rfl, ho0, hb⟩; have n0_ := Aside0.mk (Kd.R_lower ho0 (below_size (by repeat (first | (with_reducible first | exact HB.out | apply below_alloc | apply pw_below_drewN | apply below_drew1) | exact HB.out)))); have n1_ := Aside0.mk (below_step (by repeat (first | (with_reducible first | exact HB.out | apply below_alloc | apply pw_below_drewN | apply below_drew1) | exact HB.out)) hb); clear HB; have HO237 := n0_; have HB := n1_; clear n0_ n1_; (try clear hb); (try clear hb2); (try clear hk); (try clear hi); (try clear ho0); obtain ⟨Ao52, co52, eo52⟩ := Kd.R_slice HO237.out; subst eo52) | (go_at_call 10; (with_reducible refine (parquetrylaw18_awake.calls kj4  t238 _ A50.out).mono ?_); rintro e w53 ⟨rfl, hb⟩; have n0_ := Aside0.mk (Kd.R_below (by (with_reducible repeat (first | apply Kd.R_alloc | apply Kd.R_drewN | apply Kd.R_drew)); exact HO237.out) hb); have n1_ := Aside0.mk (below_step (by repeat (first | (with_reducible first | exact HB.out | apply below_alloc | apply pw_below_drewN | apply below_drew1) | exact HB.out)) hb); clear HO237; clear HB; have HO237 := n0_; have HB := n1_; clear n0_ n1_; (try clear hb); (try clear hb2); (try clear hk); (try clear hi))); try go_wp2_with (first | (go_at_call 11; (with_reducible refine (clip_All.calls kj4 _ _ l0 _ _ l1 a2 a3 t234 t235 _ ?side1 ?side2 ?side3 ?side4 A10.out).mono ?_); (case side1 => repeat (first | exact (Kd.C_below HR0.out HB.out) | (with_reducible refine Kd.C_alloc ?_ _) | (with_reducible refine Kd.C_drewN ?_ _) | (with_reducible refine Kd.C_drew ?_))); (case side2 => exact HC0.out); (case side3 => repeat (first | exact (Kd.C_below HR1.out HB.out) | (with_reducible refine Kd.C_alloc ?_ _) | (with_reducible refine Kd.C_drewN ?_ _) | (with_reducible refine Kd.C_drew ?_))); (case side4 => exact HC1.out); rintro e w51 ⟨v236, rfl, ho0, hb⟩; have n0_ := Aside0.mk (Kd.R_lower ho0 (below_size (by repeat (first | (with_reducible first | exact HB.out | apply below_alloc | apply pw_below_drewN | apply below_drew1) | exact HB.out)))); have n1_ := Aside0.mk (below_step (by repeat (first | (with_reducible first | exact HB.out | apply below_alloc | apply pw_below_drewN | apply below_drew1) | exact HB.out)) hb); clear HB; have HO237 := n0_; have HB := n1_; clear n0_ n1_; (try clear hb); (try clear hb2); (try clear hk); (try clear hi); (try clear ho0); obtain ⟨Ao52, co52, eo52⟩ := Kd.R_slice HO237.out; subst eo52) | (go_at_call 10; (with_reducible refine (parquetrylaw18_awake.calls kj4  t238 _ A50.out).mono ?_); rintro e w53 ⟨rfl, hb⟩; have n0_ := Aside0.mk (Kd.R_below (by (with_reducible repeat (first | apply Kd.R_alloc | apply Kd.R_drewN | apply Kd.R_drew)); exact HO237.out) hb); have n1_ := Aside0.mk (below_step (by repeat (first | (with_reducible first | exact HB.out | apply below_alloc | apply pw_below_drewN | apply below_drew1) | exact HB.out)) hb); clear HO237; clear HB; have HO237 := n0_; have HB := n1_; clear n0_ n1_; (try clear hb); (try clear hb2); (try clear hk); (try clear hi))))
            go_ret
            exact ⟨by first | rfl | (simp [errW_none, errW_some] <;> rfl) | (simp [*, errW_none, errW_some] <;> rfl), by repeat (first | (with_reducible first | exact HB.out | apply below_alloc | apply pw_below_drewN | apply below_drew1) | exact HB.out)⟩
          · rw [if_neg c49] at H
            have c49b0 : ((t234.length : Int) == 0) = false := beq_eq_false_iff_ne.mpr c49
            have c49b1 : ((t234.length : Int) != 0) = true := bne_iff_ne.mpr c49
            have c49b2 : ¬ (t234 = []) := fun h_ => c49 (by rw [h_]; rfl)
            obtain rfl := Option.some.inj H
            go_wp2_with (first | (go_at_call 11; (with_reducible refine (clip_All.calls kj4 _ _ l0 _ _ l1 a2 a3 t234 t235 _ ?side1 ?side2 ?side3 ?side4 A10.out).mono ?_); (case side1 => repeat (first | exact (Kd.C_below HR0.out HB.out) | (with_reducible refine Kd.C_alloc ?_ _) | (with_reducible refine Kd.C_drewN ?_ _) | (with_reducible refine Kd.C_drew ?_))); (case side2 => exact HC0.out); (case side3 => repeat (first | exact (Kd.C_below HR1.out HB.out) | (with_reducible refine Kd.C_alloc ?_ _) | (with_reducible refine Kd.C_drewN ?_ _) | (with_reducible refine Kd.C_drew ?_))); (case side4 => exact HC1.out); rintro e w54 ⟨v236, rfl, ho0, hb⟩; have n0_ := Aside0.mk (Kd.R_lower ho0 (below_size (by repeat (first | (with_reducible first | exact HB.out | apply below_alloc | apply pw_below_drewN | apply below_drew1) | exact HB.out)))); have n1_ := Aside0.mk (below_step (by repeat (first | (with_reducible first | exact HB.out | apply below_alloc | apply pw_below_drewN | apply below_drew1) | exact HB.out)) hb); clear HB; have HO237 := n0_; have HB := n1_; clear n0_ n1_; (try clear hb); (try clear hb2); (try clear hk); (try clear hi); (try clear ho0); obtain ⟨Ao55, co55, eo55⟩ := Kd.R_slice HO237.out; subst eo55))
            repeat (go_quiet (first | (go_at_call 11; (with_reducible refine (clip_All.calls kj4 _ _ l0 _ _ l1 a2 a3 t234 t235 _ ?side1 ?side2 ?side3 ?side4 A10.out).mono ?_); (case side1 => repeat (first | exact (Kd.C_below HR0.out HB.out) | (with_reducible refine Kd.C_alloc ?_ _) | (with_reducible refine Kd.C_drewN ?_ _) | (with_reducible refine Kd.C_drew ?_))); (case side2 => exact HC0.out); (case side3 => repeat (first | exact (Kd.C_below HR1.out HB.out) | (with_reducible refine Kd.C_alloc ?_ _) | (with_reducible refine Kd.C_drewN ?_ _) | (with_reducible refine Kd.C_drew ?_))); (case side4 => exact HC1.out); rintro e w54 ⟨v236, rfl, ho0, hb⟩; have n0_ := Aside0.mk (Kd.R_lower ho0 (below_size (by repeat (first | (with_reducible first | exact HB.out | apply below_alloc | apply pw_below_drewN | apply below_drew1) | exact HB.out)))); have n1_ := Aside0.mk (below_step (by repeat (first | (with_reducible first | exact HB.out | apply below_alloc | apply pw_below_drewN | apply below_drew1) | exact HB.out)) hb); clear HB; have HO237 := n0_; have HB := n1_; clear n0_ n1_; (try clear hb); (try clear hb2); (try clear hk); (try clear hi); (try clear ho0); obtain ⟨Ao55, co55, eo55⟩ := Kd.R_slice HO237.out; subst eo55)); try go_wp2_with (first | (go_at_call 11; (with_reducible refine (clip_All.calls kj4 _ _ l0 _ _ l1 a2 a3 t234 t235 _ ?side1 ?side2 ?side3 ?side4 A10.out).mono ?_); (case side1 => repeat (first | exact (Kd.C_below HR0.out HB.out) | (with_reducible refine Kd.C_alloc ?_ _) | (with_reducible refine Kd.C_drewN ?_ _) | (with_reducible refine Kd.C_drew ?_))); (case side2 => exact HC0.out); (case side3 => repeat (first | exact (Kd.C_below HR1.out HB.out) | (with_reducible refine Kd.C_alloc ?_ _) | (with_reducible refine Kd.C_drewN ?_ _) | (with_reducible refine Kd.C_drew ?_))); (case side4 => exact HC1.out); rintro e w54 ⟨v236, rfl, ho0, hb⟩; have n0_ := Aside0.mk (Kd.R_lower ho0 (below_size (by repeat (first | (with_reducible first | exact HB.out | apply below_alloc | apply pw_below_drewN | apply below_drew1) | exact HB.out)))); have n1_ := Aside0.mk (below_step (by repeat (first | (with_reducible first | exact HB.out | apply below_alloc | apply pw_below_drewN | apply below_drew1) | exact HB.out)) hb); clear HB; have HO237 := n0_; have HB := n1_; clear n0_ n1_; (try clear hb); (try clear hb2); (try clear hk); (try clear hi); (try clear ho0); obtain ⟨Ao55, co55, eo55⟩ := Kd.R_slice HO237.out; subst eo55)))
            go_ret
            exact ⟨by first | rfl | (simp [errW_none, errW_some] <;> rfl) | (simp [*, errW_none, errW_some] <;> rfl), by repeat (first | (with_reducible first | exact HB.out | apply below_alloc | apply pw_below_drewN | apply below_drew1) | exact HB.out)⟩


/-- THE ONE PURE STATEMENT of parquetrylaw18_ClipLeft: yours. -/
def parquetrylaw18_ClipLeft.Pure : Prop := ∀ (l0 : List (S39)) (l1 : List (S29)) (a2 : Int) (a3 : Int), l0.length ≤ maxLen → l0.length * 48 ≤ 140737488351232 → (∀ x ∈ l0, (Lit.int .i64 x.f0).wf = true ∧ (Lit.int .i64 x.f1).wf = true ∧ (Lit.int .i64 x.f2).wf = true ∧ (Lit.int .i64 x.f3).wf = true ∧ (Lit.int .i64 x.f4).wf = true ∧ (Lit.int .i64 x.f5).wf = true) → l1.length ≤ maxLen → l1.length * 40 ≤ 140737488351232 → (∀ x ∈ l1, (Lit.int .i64 x.f0).wf = true ∧ (Lit.int .i64 x.f1).wf = true ∧ (Lit.int .i64 x.f2).wf = true ∧ (Lit.int .i64 x.f3).wf = true ∧ (Lit.int .i64 x.f4).wf = true) → (Lit.int .i64 a2).wf = true → (Lit.int .i64 a3).wf = true → ∃ k, parquetrylaw18_ClipLeft.f k l0 l1 a2 a3 = some true
theorem parquetrylaw18_ClipLeft.walk (P : parquetrylaw18_ClipLeft.Pure) (a0 : Option Addr) (cap0 : Nat) (l0 : List (S39)) (a1 : Option Addr) (cap1 : Nat) (l1 : List (S29)) (a2 : Int) (a3 : Int) (w : World) (hr0 : Kd.C k39 w a0 l0.length l0) (hc0 : l0.length ≤ cap0) (hm0 : l0.length ≤ maxLen) (y0 : l0.length * 48 ≤ 140737488351232) (hw0 : ∀ x ∈ l0, (Lit.int .i64 x.f0).wf = true ∧ (Lit.int .i64 x.f1).wf = true ∧ (Lit.int .i64 x.f2).wf = true ∧ (Lit.int .i64 x.f3).wf = true ∧ (Lit.int .i64 x.f4).wf = true ∧ (Lit.int .i64 x.f5).wf = true) (hr1 : Kd.C k29 w a1 l1.length l1) (hc1 : l1.length ≤ cap1) (hm1 : l1.length ≤ maxLen) (y1 : l1.length * 40 ≤ 140737488351232) (hw1 : ∀ x ∈ l1, (Lit.int .i64 x.f0).wf = true ∧ (Lit.int .i64 x.f1).wf = true ∧ (Lit.int .i64 x.f2).wf = true ∧ (Lit.int .i64 x.f3).wf = true ∧ (Lit.int .i64 x.f4).wf = true) (w2 : (Lit.int .i64 a2).wf = true) (w3 : (Lit.int .i64 a3).wf = true) :
    Calls Try.prog 3 #[.slice a0 l0.length cap0, .slice a1 l1.length cap1, .int .i64 a2, .int .i64 a3] w fun e w' => e = .returned (.bool true) ∧ Below w.heap.size w w' := by
  obtain ⟨k, h⟩ := P l0 l1 a2 a3 hm0 y0 hw0 hm1 y1 hw1 w2 w3
  refine (parquetrylaw18_ClipLeft.calls k _ _ l0 _ _ l1 a2 a3 true w hr0 hc0 hr1 hc1 h).mono ?_
  rintro e w' ⟨rfl, hd⟩
  exact ⟨rfl, hd⟩

end Go.Proofs.Ytieffcjbbhigbaa.PC18
